/- Arms, facts about the examples, Same. The examples of package fraction hold. fit; the law FractionValid. The plain law of fractions: what they stand for (rational numbers), and the laws of a field, of the order, of Lerp and of Floor. The law FractionFloors. -/
import Derived.Test.YtldnimohnbjfaaaP12
namespace Go.Proofs.Ytldnimohnbjfaaa
set_option linter.unusedSimpArgs false
set_option linter.unusedVariables false
set_option maxRecDepth 100000
open Go.RowKit
/-- Agreement in all fields. -/
def Fq.same (x y : Fq) : Bool := x.s == y.s && (decide (x.p = y.p) && decide (x.q = y.q))
theorem Fq.same_iff {x y : Fq} : x.same y = true ↔ x = y := by
  obtain ⟨a, b, c⟩ := x; obtain ⟨a', b', c'⟩ := y
  simp [Fq.same]
theorem Fq.same_refl (x : Fq) : x.same x = true := Fq.same_iff.2 rfl
/-- A fraction of rows as a value. -/
def Sp.frR (s : Bool) (L p N q : Nat) : Sp := ⟨fun w v => IsFR w v s L p N q, fun _ _ _ h hb => IsFR.mono h hb⟩
/-- A slice of length L. -/
def Sp.sl (L : Nat) : Sp := ⟨fun _ v => ∃ a c, v = .slice a L c, fun _ _ _ h _ => h⟩
theorem run_fieldN (g k : Nat) (w : World) : (Instr.fieldAt 24 (.pointer (some ⟨g, k, none⟩)) 0).run Try.prog w = .ok (.pointer (some ⟨g, k, none⟩)) w := by go_simp
theorem run_loadW (g k L c : Nat) (b : Option Addr) (w : World) (h : w.cell? ⟨g, k, none⟩ = some (.slice b L c)) : (Instr.loadAt 22 (.pointer (some ⟨g, k, none⟩))).run Try.prog w = .ok (.slice b L c) w := by go_simp
section
variable {Q : Exit → Act → World → Prop} {o : Oper} {a : Act} {w : World} {x y : Operand} {g L p N q k : Nat} {s : Bool}
theorem arm_fieldN (ho : o.op = .fieldAddr 24 x 0) (hx : Is a w x (.val (.pointer (some ⟨g, k, none⟩)))) : Arm Try.prog Q o a w (.val (.pointer (some ⟨g, k, none⟩))) := by
  have hx' : a.eval x = .pointer (some ⟨g, k, none⟩) := hx
  refine arm_run _ ?_ rfl
  unfold execOp
  rw [ho]
  simp only [hx', Sem.run_bind, run_fieldN, Result.andThen, Sem.run_pure]
theorem arm_loadW1 (ho : o.op = .load 22 x) (hx : Is a w x (.val (.pointer (some ⟨g, 1, none⟩)))) (h : VarFR w g s L p N q) : Arm Try.prog Q o a w (.sl L) := by
  obtain ⟨b, c, b', d, h, h1, h2⟩ := h
  have hx' : a.eval x = .pointer (some ⟨g, 1, none⟩) := hx
  refine arm_run (.slice b L c) ?_ ⟨_, _, rfl⟩
  unfold execOp
  rw [ho]
  simp only [hx', Sem.run_bind, run_loadW _ _ _ _ _ w h.cell1, Result.andThen, Sem.run_pure]
theorem arm_loadW2 (ho : o.op = .load 22 x) (hx : Is a w x (.val (.pointer (some ⟨g, 2, none⟩)))) (h : VarFR w g s L p N q) : Arm Try.prog Q o a w (.sl N) := by
  obtain ⟨b, c, b', d, h, h1, h2⟩ := h
  have hx' : a.eval x = .pointer (some ⟨g, 2, none⟩) := hx
  refine arm_run (.slice b' N d) ?_ ⟨_, _, rfl⟩
  unfold execOp
  rw [ho]
  simp only [hx', Sem.run_bind, run_loadW _ _ _ _ _ w h.cell2, Result.andThen, Sem.run_pure]
theorem arm_lenW (ho : o.op = .call { callee := .builtin .len, args := #[x], argTypes := #[22] }) (hx : Is a w x (.sl L)) : Arm Try.prog Q o a w (.val (.int .i64 (L : Int))) := by
  obtain ⟨b, c, hx'⟩ : ∃ b c, a.eval x = .slice b L c := hx
  refine arm_run (.int .i64 (L : Int)) ?_ rfl
  simp [execOp, ho, resolve, invoke, builtin, hx', Result.andThen]
  go_simp
theorem arm_loadFR (ho : o.op = .load 26 x) (hx : Is a w x (.val (.pointer (some ⟨g, 0, none⟩)))) (h : VarFR w g s L p N q) : Arm Try.prog Q o a w (.frR s L p N q) := by
  obtain ⟨b, c, b', d, h, h1, h2⟩ := h
  have hx' : a.eval x = .pointer (some ⟨g, 0, none⟩) := hx
  refine arm_run (.agg #[.bool s, .slice b L c, .slice b' N d]) ?_ ⟨b, c, b', d, rfl, h1, h2⟩
  unfold execOp
  rw [ho]
  simp only [hx', Sem.run_bind, run_loadF _ _ _ _ _ _ _ _ w h, Result.andThen, Sem.run_pure]
end
theorem ok_of {s : Bool} {p q d : Nat} (hp : nl p ≤ d) (hq : nl q ≤ d) (h : q ≠ 0) : (Fq.mk s p q).ok d := ⟨hp, hq, h⟩
/-- Which fractions the laws look at. -/
def FitP (s : Bool) (L p N q : Nat) : Prop := L ≤ 12 ∧ N ≤ 12 ∧ nl p = L ∧ nl q = N ∧ (Fq.mk s p q).valid = true
theorem FitP.ok {s : Bool} {L p N q : Nat} (h : FitP s L p N q) : (Fq.mk s p q).ok 12 := ⟨by show nl p ≤ 12; have := h.1; have := h.2.2.1; omega, by show nl q ≤ 12; have := h.2.1; have := h.2.2.2.1; omega, (of_decide_eq_true h.2.2.2.2).1⟩
-- constants of the examples
theorem e13 : Fq.mk false 1 3 = Fq.ratio 1 3 := Fq.same_iff.1 (by decide +kernel)
theorem e16 : Fq.mk false 1 6 = Fq.ratio 1 6 := Fq.same_iff.1 (by decide +kernel)
theorem e12 : Fq.mk false 1 2 = Fq.ratio (-1) (-2) := Fq.same_iff.1 (by decide +kernel)
theorem eneg : Fq.mk true 1 2 = (Fq.mk false 1 2).neg := Fq.same_iff.1 (by decide +kernel)
theorem eadd : Fq.mk false 1 2 = (Fq.mk false 1 3).add (Fq.mk false 1 6) := Fq.same_iff.1 (by decide +kernel)
theorem fmt2 : fmtB 2 = { data := #[50] } := by decide +kernel
theorem fmt4 : fmtB 4 = { data := #[52] } := by decide +kernel
theorem fmt1 : fmtB 1 = { data := #[49] } := by decide +kernel
theorem efmt : Value.string { data := #[45, 49, 47, 50] } = Value.string (Fq.mk true 1 2).fmt := by
  congr 1; unfold Fq.fmt; simp only [if_true]; rw [if_neg (by decide), fmt1, fmt2]; decide +kernel
theorem ofFl12 {w w' : World} {e : Ending} (h : RetFl w (Fq.mk true 1 2).floor e w') : ∃ x, e = .returned x ∧ (Sp.pair (.val (.int .i64 (-1))) (.val (.bool true))).p w' x ∧ Below w.heap.size w w' := by
  rw [show (Fq.mk true 1 2).floor = (-1, true) by decide +kernel] at h; exact ofPair h
theorem fp24 : FP { data := #[50, 47, 52] } .zero 2 := by
  have hP : Pieces { data := #[50, 47, 52] } { data := #[50, 47, 52] } false true (fmtB 2) (fmtB 4) := by
    refine ⟨by decide +kernel, rfl, fun _ => ⟨1, ⟨by decide +kernel, by decide +kernel, fun j hj => ?_⟩, ?_, ?_⟩, fun h => by cases h⟩
    · obtain rfl : j = 0 := by omega
      decide +kernel
    · rw [fmt2]; decide +kernel
    · rw [fmt4]; decide +kernel
  exact .bad hP (fmt_parses 2 (by decide)) (fun _ => fmt_parses 4 (by decide)) (by decide +kernel)
def SameT0 (w : World) (xs : Bool) (ys : Bool) (xp : Nat) (xq : Nat) (yp : Nat) (yq : Nat) : List (Nat × Tmp × Sp) :=
   [(0, 5, .val (Value.pointer (some ⟨w.heap.size, 0, none⟩))),
    (1, 6, .val (Value.bool xs)),
    (2, 7, .val (Value.pointer (some ⟨w.heap.size + 1, 0, none⟩))),
    (3, 8, .val (Value.bool ys)),
    (4, 9, .val (Value.bool true)),
    (5, 10, .val (Value.bool true)),
    (6, 11, .val (Value.pointer (some ⟨w.heap.size, 1, none⟩))),
    (7, 12, .nat (xp)),
    (8, 13, .val (Value.pointer (some ⟨w.heap.size + 1, 1, none⟩))),
    (9, 14, .nat (yp)),
    (10, 15, .val (Value.bool true)),
    (11, 16, .val (Value.bool true)),
    (12, 17, .val (Value.bool true)),
    (13, 18, .val (Value.pointer (some ⟨w.heap.size, 2, none⟩))),
    (14, 19, .nat (xq)),
    (15, 20, .val (Value.pointer (some ⟨w.heap.size + 1, 2, none⟩))),
    (16, 21, .nat (yq)),
    (17, 22, .val (Value.bool true)),
    (18, 23, .val (Value.bool true)),
    (19, 4, .val (Value.bool true))]
def SameT1 (w : World) (xs : Bool) (ys : Bool) (xp : Nat) (xq : Nat) (yp : Nat) (yq : Nat) : List (Nat × Tmp × Sp) :=
   [(0, 5, .val (Value.pointer (some ⟨w.heap.size, 0, none⟩))),
    (1, 6, .val (Value.bool xs)),
    (2, 7, .val (Value.pointer (some ⟨w.heap.size + 1, 0, none⟩))),
    (3, 8, .val (Value.bool ys)),
    (4, 9, .val (Value.bool true)),
    (5, 10, .val (Value.bool true)),
    (6, 11, .val (Value.pointer (some ⟨w.heap.size, 1, none⟩))),
    (7, 12, .nat (xp)),
    (8, 13, .val (Value.pointer (some ⟨w.heap.size + 1, 1, none⟩))),
    (9, 14, .nat (yp)),
    (10, 15, .val (Value.bool true)),
    (11, 16, .val (Value.bool true)),
    (12, 17, .val (Value.bool true)),
    (13, 18, .val (Value.pointer (some ⟨w.heap.size, 2, none⟩))),
    (14, 19, .nat (xq)),
    (15, 20, .val (Value.pointer (some ⟨w.heap.size + 1, 2, none⟩))),
    (16, 21, .nat (yq)),
    (17, 22, .val (Value.bool false)),
    (18, 23, .val (Value.bool false)),
    (19, 4, .val (Value.bool false))]
def SameT2 (w : World) (xs : Bool) (ys : Bool) (xp : Nat) (yp : Nat) : List (Nat × Tmp × Sp) :=
   [(0, 5, .val (Value.pointer (some ⟨w.heap.size, 0, none⟩))),
    (1, 6, .val (Value.bool xs)),
    (2, 7, .val (Value.pointer (some ⟨w.heap.size + 1, 0, none⟩))),
    (3, 8, .val (Value.bool ys)),
    (4, 9, .val (Value.bool true)),
    (5, 10, .val (Value.bool true)),
    (6, 11, .val (Value.pointer (some ⟨w.heap.size, 1, none⟩))),
    (7, 12, .nat (xp)),
    (8, 13, .val (Value.pointer (some ⟨w.heap.size + 1, 1, none⟩))),
    (9, 14, .nat (yp)),
    (10, 15, .val (Value.bool false)),
    (11, 16, .val (Value.bool false)),
    (12, 17, .val (Value.bool false)),
    (13, 18, .val undef),
    (14, 19, .val undef),
    (15, 20, .val undef),
    (16, 21, .val undef),
    (17, 22, .val undef),
    (18, 23, .val (Value.bool false)),
    (19, 4, .val (Value.bool false))]
def SameT3 (w : World) (xs : Bool) (ys : Bool) : List (Nat × Tmp × Sp) :=
   [(0, 5, .val (Value.pointer (some ⟨w.heap.size, 0, none⟩))),
    (1, 6, .val (Value.bool xs)),
    (2, 7, .val (Value.pointer (some ⟨w.heap.size + 1, 0, none⟩))),
    (3, 8, .val (Value.bool ys)),
    (4, 9, .val (Value.bool false)),
    (5, 10, .val (Value.bool false)),
    (6, 11, .val undef),
    (7, 12, .val undef),
    (8, 13, .val undef),
    (9, 14, .val undef),
    (10, 15, .val undef),
    (11, 16, .val (Value.bool false)),
    (12, 17, .val (Value.bool false)),
    (13, 18, .val undef),
    (14, 19, .val undef),
    (15, 20, .val undef),
    (16, 21, .val undef),
    (17, 22, .val undef),
    (18, 23, .val (Value.bool false)),
    (19, 4, .val (Value.bool false))]
set_option maxHeartbeats 4000000 in
theorem q_SameB (va vb : Value) (x y : Fq) (w : World) (ha : IsQ w va x) (hb : IsQ w vb y) (hp : nl x.p ≤ 1000000000000) (hq : nl x.q ≤ 1000000000000) (kp : nl y.p ≤ 1000000000000) (kq : nl y.q ≤ 1000000000000) :
    Calls Try.prog 16 #[va, vb] w fun e w' => RetV w (.bool (x.same y)) e w' := by
  obtain ⟨xs, xp, xq⟩ := x
  obtain ⟨ys, yp, yq⟩ := y
  have bxp : nl xp ≤ 1000000000000 := hp
  have bxq : nl xq ≤ 1000000000000 := hq
  have byp : nl yp ≤ 1000000000000 := kp
  have byq : nl yq ≤ 1000000000000 := kq
  by_cases h1 : (xs == ys) = true
  · have H1 : Hid (true = (xs == ys)) := Lib.hid h1.symm
    by_cases h2 : xp = yp
    · have H2 : Hid (decide (xp = yp) = true) := Lib.hid (decide_eq_true h2)
      by_cases h3 : xq = yq
      · have H3 : Hid (decide (xq = yq) = true) := Lib.hid (decide_eq_true h3)
        have hr : (Fq.mk xs xp xq).same (Fq.mk ys yp yq) = true := by unfold Fq.same; simp only; rw [h1, H2.out, H3.out]; rfl
        rw [hr]
        clear hr h1 h2 h3
        obtain ⟨a0, c0, b0, d0, rfl, m0, k0⟩ := boxF ha
        obtain ⟨a1, c1, b1, d1, rfl, m1, k1⟩ := boxF (hb.mono m0)
        rw [World.size_alloc ] at k1
        have n1 := m0.trans (m1.mono m0.size)
        clear ha hb
        go_enter Try.func16, Try.ntmps16
        go_upto_region 0 with (fail)
        go_cut [2, 3, 4] (fun s_2 s_3 s_4 wx => s_2 = Value.pointer (some ⟨w.heap.size, 0, none⟩) ∧ s_3 = Value.pointer (some ⟨w.heap.size + 1, 0, none⟩) ∧ s_4 = Value.bool false ∧ VarQ wx w.heap.size (Fq.mk xs xp xq) ∧ VarQ wx (w.heap.size + 1) (Fq.mk ys yp yq) ∧ Below w.heap.size w wx)
        case first =>
          go_wp2_with fail
          go_meet
          case rel => exact ⟨rfl, rfl, rfl, (k0.mono m1), k1, n1⟩
        case rest =>
        clear m0 k0 m1 k1 n1
        obtain ⟨rfl, rfl, rfl, V0, V1, hb1⟩ := hcut
        go_upto_region 1 with (fail)
        go_cut [4] (fun s_4 wx => s_4 = Value.bool true ∧ VarQ wx w.heap.size (Fq.mk xs xp xq) ∧ VarQ wx (w.heap.size + 1) (Fq.mk ys yp yq) ∧ Below w.heap.size w wx)
        case first =>
          refine tF Try.f16 1 (SameT0 w xs ys xp xq yp yq) [] 14 0 ?_ ?_
          · refine ⟨fun _ _ F => gR rfl rfl (arm_fieldF rfl (F.k 2 (Value.pointer (some ⟨w.heap.size, 0, none⟩))) (run_field0 _)).b, ?_⟩
            refine ⟨fun _ _ F => gR rfl rfl (arm_loadS rfl (F.f 0 rfl) (V0.mono F.below)).b, ?_⟩
            refine ⟨fun _ _ F => gR rfl rfl (arm_fieldF rfl (F.k 3 (Value.pointer (some ⟨w.heap.size + 1, 0, none⟩))) (run_field0 _)).b, ?_⟩
            refine ⟨fun _ _ F => gR rfl rfl (arm_loadS rfl (F.f 2 rfl) (V1.mono F.below)).b, ?_⟩
            refine ⟨fun _ _ F => gR rfl rfl (arm_bin rfl (F.f 1 rfl) (F.f 3 rfl) (fun _ => rfl) (fun w => by rw [H1.out]; exact run_eqBB _ _ w)).b, ?_⟩
            refine ⟨fun _ _ F => gR rfl rfl (arm_move (.inl rfl) (F.f 4 rfl)).b, ?_⟩
            refine ⟨fun _ _ F => gG F rfl rfl rfl rfl (arm_fieldF rfl (F.k 2 (Value.pointer (some ⟨w.heap.size, 0, none⟩))) (run_field1 _)).b, ?_⟩
            refine ⟨fun _ _ F => gG F rfl rfl rfl rfl (arm_load1 rfl (F.f 6 rfl) (V0.mono F.below)).b, ?_⟩
            refine ⟨fun _ _ F => gG F rfl rfl rfl rfl (arm_fieldF rfl (F.k 3 (Value.pointer (some ⟨w.heap.size + 1, 0, none⟩))) (run_field1 _)).b, ?_⟩
            refine ⟨fun _ _ F => gG F rfl rfl rfl rfl (arm_load1 rfl (F.f 8 rfl) (V1.mono F.below)).b, ?_⟩
            refine ⟨fun _ _ F => gG F rfl rfl rfl rfl (arm_C2 rfl (enters Try.func52 rfl rfl) (F.f 7 rfl) (F.f 9 rfl) (fun va vb w h1 h2 => c_ref_Same va vb xp yp w h1 h2 bxp byp) (fun _ _ h => by have h' : RetV _ _ _ _ := h; rw [H2.out] at h'; exact ofV h')).b, ?_⟩
            refine ⟨fun _ _ F => gR rfl rfl (arm_pick rfl (F.f 5 rfl) (fun _ => (F.f 10 rfl)) (fun h => by cases h)).b, ?_⟩
            refine ⟨fun _ _ F => gR rfl rfl (arm_move (.inl rfl) (F.f 11 rfl)).b, ?_⟩
            refine ⟨fun _ _ F => gG F rfl rfl rfl rfl (arm_fieldF rfl (F.k 2 (Value.pointer (some ⟨w.heap.size, 0, none⟩))) (run_field2 _)).b, ?_⟩
            refine ⟨fun _ _ F => gG F rfl rfl rfl rfl (arm_load2 rfl (F.f 13 rfl) (V0.mono F.below)).b, ?_⟩
            refine ⟨fun _ _ F => gG F rfl rfl rfl rfl (arm_fieldF rfl (F.k 3 (Value.pointer (some ⟨w.heap.size + 1, 0, none⟩))) (run_field2 _)).b, ?_⟩
            refine ⟨fun _ _ F => gG F rfl rfl rfl rfl (arm_load2 rfl (F.f 15 rfl) (V1.mono F.below)).b, ?_⟩
            refine ⟨fun _ _ F => gG F rfl rfl rfl rfl (arm_C2 rfl (enters Try.func52 rfl rfl) (F.f 14 rfl) (F.f 16 rfl) (fun va vb w h1 h2 => c_ref_Same va vb xq yq w h1 h2 bxq byq) (fun _ _ h => by have h' : RetV _ _ _ _ := h; rw [H3.out] at h'; exact ofV h')).b, ?_⟩
            refine ⟨fun _ _ F => gR rfl rfl (arm_pick rfl (F.f 12 rfl) (fun _ => (F.f 17 rfl)) (fun h => by cases h)).b, ?_⟩
            refine ⟨fun _ _ F => gR rfl rfl (arm_move (.inr rfl) (F.f 18 rfl)).b, ?_⟩
            exact trivial
          intro E' hE gp wp bp G Gs
          obtain rfl : E' = [] := by simpa [subs] using hE
          have e_19 : gp 19 = Value.bool true := G 19 4 _ (by simp) rfl
          clear G Gs hE
          simp only [SameT0]
          simp only [qA, setD, qZ, qS, e_19]
          refine wpAny_done (by kernel_rfl) ?_ _
          go_wp2_with fail
          go_meet
          case rel => exact ⟨rfl, (V0.mono bp), (V1.mono bp), (hb1.trans (bp.mono hb1.size))⟩
        case rest =>
        clear V0 V1 hb1
        obtain ⟨rfl, V0, V1, hb1⟩ := hcut
        go_wp2
        go_ret
        exact ⟨rfl, hb1⟩
      · have H3 : Hid (decide (xq = yq) = false) := Lib.hid (decide_eq_false h3)
        have hr : (Fq.mk xs xp xq).same (Fq.mk ys yp yq) = false := by unfold Fq.same; simp only; rw [h1, H2.out, H3.out]; rfl
        rw [hr]
        clear hr h1 h2 h3
        obtain ⟨a0, c0, b0, d0, rfl, m0, k0⟩ := boxF ha
        obtain ⟨a1, c1, b1, d1, rfl, m1, k1⟩ := boxF (hb.mono m0)
        rw [World.size_alloc ] at k1
        have n1 := m0.trans (m1.mono m0.size)
        clear ha hb
        go_enter Try.func16, Try.ntmps16
        go_upto_region 0 with (fail)
        go_cut [2, 3, 4] (fun s_2 s_3 s_4 wx => s_2 = Value.pointer (some ⟨w.heap.size, 0, none⟩) ∧ s_3 = Value.pointer (some ⟨w.heap.size + 1, 0, none⟩) ∧ s_4 = Value.bool false ∧ VarQ wx w.heap.size (Fq.mk xs xp xq) ∧ VarQ wx (w.heap.size + 1) (Fq.mk ys yp yq) ∧ Below w.heap.size w wx)
        case first =>
          go_wp2_with fail
          go_meet
          case rel => exact ⟨rfl, rfl, rfl, (k0.mono m1), k1, n1⟩
        case rest =>
        clear m0 k0 m1 k1 n1
        obtain ⟨rfl, rfl, rfl, V0, V1, hb1⟩ := hcut
        go_upto_region 1 with (fail)
        go_cut [4] (fun s_4 wx => s_4 = Value.bool false ∧ VarQ wx w.heap.size (Fq.mk xs xp xq) ∧ VarQ wx (w.heap.size + 1) (Fq.mk ys yp yq) ∧ Below w.heap.size w wx)
        case first =>
          refine tF Try.f16 1 (SameT1 w xs ys xp xq yp yq) [] 14 0 ?_ ?_
          · refine ⟨fun _ _ F => gR rfl rfl (arm_fieldF rfl (F.k 2 (Value.pointer (some ⟨w.heap.size, 0, none⟩))) (run_field0 _)).b, ?_⟩
            refine ⟨fun _ _ F => gR rfl rfl (arm_loadS rfl (F.f 0 rfl) (V0.mono F.below)).b, ?_⟩
            refine ⟨fun _ _ F => gR rfl rfl (arm_fieldF rfl (F.k 3 (Value.pointer (some ⟨w.heap.size + 1, 0, none⟩))) (run_field0 _)).b, ?_⟩
            refine ⟨fun _ _ F => gR rfl rfl (arm_loadS rfl (F.f 2 rfl) (V1.mono F.below)).b, ?_⟩
            refine ⟨fun _ _ F => gR rfl rfl (arm_bin rfl (F.f 1 rfl) (F.f 3 rfl) (fun _ => rfl) (fun w => by rw [H1.out]; exact run_eqBB _ _ w)).b, ?_⟩
            refine ⟨fun _ _ F => gR rfl rfl (arm_move (.inl rfl) (F.f 4 rfl)).b, ?_⟩
            refine ⟨fun _ _ F => gG F rfl rfl rfl rfl (arm_fieldF rfl (F.k 2 (Value.pointer (some ⟨w.heap.size, 0, none⟩))) (run_field1 _)).b, ?_⟩
            refine ⟨fun _ _ F => gG F rfl rfl rfl rfl (arm_load1 rfl (F.f 6 rfl) (V0.mono F.below)).b, ?_⟩
            refine ⟨fun _ _ F => gG F rfl rfl rfl rfl (arm_fieldF rfl (F.k 3 (Value.pointer (some ⟨w.heap.size + 1, 0, none⟩))) (run_field1 _)).b, ?_⟩
            refine ⟨fun _ _ F => gG F rfl rfl rfl rfl (arm_load1 rfl (F.f 8 rfl) (V1.mono F.below)).b, ?_⟩
            refine ⟨fun _ _ F => gG F rfl rfl rfl rfl (arm_C2 rfl (enters Try.func52 rfl rfl) (F.f 7 rfl) (F.f 9 rfl) (fun va vb w h1 h2 => c_ref_Same va vb xp yp w h1 h2 bxp byp) (fun _ _ h => by have h' : RetV _ _ _ _ := h; rw [H2.out] at h'; exact ofV h')).b, ?_⟩
            refine ⟨fun _ _ F => gR rfl rfl (arm_pick rfl (F.f 5 rfl) (fun _ => (F.f 10 rfl)) (fun h => by cases h)).b, ?_⟩
            refine ⟨fun _ _ F => gR rfl rfl (arm_move (.inl rfl) (F.f 11 rfl)).b, ?_⟩
            refine ⟨fun _ _ F => gG F rfl rfl rfl rfl (arm_fieldF rfl (F.k 2 (Value.pointer (some ⟨w.heap.size, 0, none⟩))) (run_field2 _)).b, ?_⟩
            refine ⟨fun _ _ F => gG F rfl rfl rfl rfl (arm_load2 rfl (F.f 13 rfl) (V0.mono F.below)).b, ?_⟩
            refine ⟨fun _ _ F => gG F rfl rfl rfl rfl (arm_fieldF rfl (F.k 3 (Value.pointer (some ⟨w.heap.size + 1, 0, none⟩))) (run_field2 _)).b, ?_⟩
            refine ⟨fun _ _ F => gG F rfl rfl rfl rfl (arm_load2 rfl (F.f 15 rfl) (V1.mono F.below)).b, ?_⟩
            refine ⟨fun _ _ F => gG F rfl rfl rfl rfl (arm_C2 rfl (enters Try.func52 rfl rfl) (F.f 14 rfl) (F.f 16 rfl) (fun va vb w h1 h2 => c_ref_Same va vb xq yq w h1 h2 bxq byq) (fun _ _ h => by have h' : RetV _ _ _ _ := h; rw [H3.out] at h'; exact ofV h')).b, ?_⟩
            refine ⟨fun _ _ F => gR rfl rfl (arm_pick rfl (F.f 12 rfl) (fun _ => (F.f 17 rfl)) (fun h => by cases h)).b, ?_⟩
            refine ⟨fun _ _ F => gR rfl rfl (arm_move (.inr rfl) (F.f 18 rfl)).b, ?_⟩
            exact trivial
          intro E' hE gp wp bp G Gs
          obtain rfl : E' = [] := by simpa [subs] using hE
          have e_19 : gp 19 = Value.bool false := G 19 4 _ (by simp) rfl
          clear G Gs hE
          simp only [SameT1]
          simp only [qA, setD, qZ, qS, e_19]
          refine wpAny_done (by kernel_rfl) ?_ _
          go_wp2_with fail
          go_meet
          case rel => exact ⟨rfl, (V0.mono bp), (V1.mono bp), (hb1.trans (bp.mono hb1.size))⟩
        case rest =>
        clear V0 V1 hb1
        obtain ⟨rfl, V0, V1, hb1⟩ := hcut
        go_wp2
        go_ret
        exact ⟨rfl, hb1⟩
    · have H2 : Hid (decide (xp = yp) = false) := Lib.hid (decide_eq_false h2)
      have hr : (Fq.mk xs xp xq).same (Fq.mk ys yp yq) = false := by unfold Fq.same; simp only; rw [h1, H2.out]; rfl
      rw [hr]
      clear hr h1 h2
      obtain ⟨a0, c0, b0, d0, rfl, m0, k0⟩ := boxF ha
      obtain ⟨a1, c1, b1, d1, rfl, m1, k1⟩ := boxF (hb.mono m0)
      rw [World.size_alloc ] at k1
      have n1 := m0.trans (m1.mono m0.size)
      clear ha hb
      go_enter Try.func16, Try.ntmps16
      go_upto_region 0 with (fail)
      go_cut [2, 3, 4] (fun s_2 s_3 s_4 wx => s_2 = Value.pointer (some ⟨w.heap.size, 0, none⟩) ∧ s_3 = Value.pointer (some ⟨w.heap.size + 1, 0, none⟩) ∧ s_4 = Value.bool false ∧ VarQ wx w.heap.size (Fq.mk xs xp xq) ∧ VarQ wx (w.heap.size + 1) (Fq.mk ys yp yq) ∧ Below w.heap.size w wx)
      case first =>
        go_wp2_with fail
        go_meet
        case rel => exact ⟨rfl, rfl, rfl, (k0.mono m1), k1, n1⟩
      case rest =>
      clear m0 k0 m1 k1 n1
      obtain ⟨rfl, rfl, rfl, V0, V1, hb1⟩ := hcut
      go_upto_region 1 with (fail)
      go_cut [4] (fun s_4 wx => s_4 = Value.bool false ∧ VarQ wx w.heap.size (Fq.mk xs xp xq) ∧ VarQ wx (w.heap.size + 1) (Fq.mk ys yp yq) ∧ Below w.heap.size w wx)
      case first =>
        refine tF Try.f16 1 (SameT2 w xs ys xp yp) [] 14 0 ?_ ?_
        · refine ⟨fun _ _ F => gR rfl rfl (arm_fieldF rfl (F.k 2 (Value.pointer (some ⟨w.heap.size, 0, none⟩))) (run_field0 _)).b, ?_⟩
          refine ⟨fun _ _ F => gR rfl rfl (arm_loadS rfl (F.f 0 rfl) (V0.mono F.below)).b, ?_⟩
          refine ⟨fun _ _ F => gR rfl rfl (arm_fieldF rfl (F.k 3 (Value.pointer (some ⟨w.heap.size + 1, 0, none⟩))) (run_field0 _)).b, ?_⟩
          refine ⟨fun _ _ F => gR rfl rfl (arm_loadS rfl (F.f 2 rfl) (V1.mono F.below)).b, ?_⟩
          refine ⟨fun _ _ F => gR rfl rfl (arm_bin rfl (F.f 1 rfl) (F.f 3 rfl) (fun _ => rfl) (fun w => by rw [H1.out]; exact run_eqBB _ _ w)).b, ?_⟩
          refine ⟨fun _ _ F => gR rfl rfl (arm_move (.inl rfl) (F.f 4 rfl)).b, ?_⟩
          refine ⟨fun _ _ F => gG F rfl rfl rfl rfl (arm_fieldF rfl (F.k 2 (Value.pointer (some ⟨w.heap.size, 0, none⟩))) (run_field1 _)).b, ?_⟩
          refine ⟨fun _ _ F => gG F rfl rfl rfl rfl (arm_load1 rfl (F.f 6 rfl) (V0.mono F.below)).b, ?_⟩
          refine ⟨fun _ _ F => gG F rfl rfl rfl rfl (arm_fieldF rfl (F.k 3 (Value.pointer (some ⟨w.heap.size + 1, 0, none⟩))) (run_field1 _)).b, ?_⟩
          refine ⟨fun _ _ F => gG F rfl rfl rfl rfl (arm_load1 rfl (F.f 8 rfl) (V1.mono F.below)).b, ?_⟩
          refine ⟨fun _ _ F => gG F rfl rfl rfl rfl (arm_C2 rfl (enters Try.func52 rfl rfl) (F.f 7 rfl) (F.f 9 rfl) (fun va vb w h1 h2 => c_ref_Same va vb xp yp w h1 h2 bxp byp) (fun _ _ h => by have h' : RetV _ _ _ _ := h; rw [H2.out] at h'; exact ofV h')).b, ?_⟩
          refine ⟨fun _ _ F => gR rfl rfl (arm_pick rfl (F.f 5 rfl) (fun _ => (F.f 10 rfl)) (fun h => by cases h)).b, ?_⟩
          refine ⟨fun _ _ F => gR rfl rfl (arm_move (.inl rfl) (F.f 11 rfl)).b, ?_⟩
          refine ⟨fun _ _ F => gS F rfl rfl rfl rfl rfl rfl, ?_⟩
          refine ⟨fun _ _ F => gS F rfl rfl rfl rfl rfl rfl, ?_⟩
          refine ⟨fun _ _ F => gS F rfl rfl rfl rfl rfl rfl, ?_⟩
          refine ⟨fun _ _ F => gS F rfl rfl rfl rfl rfl rfl, ?_⟩
          refine ⟨fun _ _ F => gS F rfl rfl rfl rfl rfl rfl, ?_⟩
          refine ⟨fun _ _ F => gR rfl rfl (arm_pick rfl (F.f 12 rfl) (fun h => by cases h) (fun _ => Is.const)).b, ?_⟩
          refine ⟨fun _ _ F => gR rfl rfl (arm_move (.inr rfl) (F.f 18 rfl)).b, ?_⟩
          exact trivial
        intro E' hE gp wp bp G Gs
        obtain rfl : E' = [] := by simpa [subs] using hE
        have e_19 : gp 19 = Value.bool false := G 19 4 _ (by simp) rfl
        clear G Gs hE
        simp only [SameT2]
        simp only [qA, setD, qZ, qS, e_19]
        refine wpAny_done (by kernel_rfl) ?_ _
        go_wp2_with fail
        go_meet
        case rel => exact ⟨rfl, (V0.mono bp), (V1.mono bp), (hb1.trans (bp.mono hb1.size))⟩
      case rest =>
      clear V0 V1 hb1
      obtain ⟨rfl, V0, V1, hb1⟩ := hcut
      go_wp2
      go_ret
      exact ⟨rfl, hb1⟩
  · have H1 : Hid (false = (xs == ys)) := Lib.hid (Bool.eq_false_iff.2 h1).symm
    have hr : (Fq.mk xs xp xq).same (Fq.mk ys yp yq) = false := by unfold Fq.same; simp only; rw [← H1.out]; rfl
    rw [hr]
    clear hr h1
    obtain ⟨a0, c0, b0, d0, rfl, m0, k0⟩ := boxF ha
    obtain ⟨a1, c1, b1, d1, rfl, m1, k1⟩ := boxF (hb.mono m0)
    rw [World.size_alloc ] at k1
    have n1 := m0.trans (m1.mono m0.size)
    clear ha hb
    go_enter Try.func16, Try.ntmps16
    go_upto_region 0 with (fail)
    go_cut [2, 3, 4] (fun s_2 s_3 s_4 wx => s_2 = Value.pointer (some ⟨w.heap.size, 0, none⟩) ∧ s_3 = Value.pointer (some ⟨w.heap.size + 1, 0, none⟩) ∧ s_4 = Value.bool false ∧ VarQ wx w.heap.size (Fq.mk xs xp xq) ∧ VarQ wx (w.heap.size + 1) (Fq.mk ys yp yq) ∧ Below w.heap.size w wx)
    case first =>
      go_wp2_with fail
      go_meet
      case rel => exact ⟨rfl, rfl, rfl, (k0.mono m1), k1, n1⟩
    case rest =>
    clear m0 k0 m1 k1 n1
    obtain ⟨rfl, rfl, rfl, V0, V1, hb1⟩ := hcut
    go_upto_region 1 with (fail)
    go_cut [4] (fun s_4 wx => s_4 = Value.bool false ∧ VarQ wx w.heap.size (Fq.mk xs xp xq) ∧ VarQ wx (w.heap.size + 1) (Fq.mk ys yp yq) ∧ Below w.heap.size w wx)
    case first =>
      refine tF Try.f16 1 (SameT3 w xs ys) [] 14 0 ?_ ?_
      · refine ⟨fun _ _ F => gR rfl rfl (arm_fieldF rfl (F.k 2 (Value.pointer (some ⟨w.heap.size, 0, none⟩))) (run_field0 _)).b, ?_⟩
        refine ⟨fun _ _ F => gR rfl rfl (arm_loadS rfl (F.f 0 rfl) (V0.mono F.below)).b, ?_⟩
        refine ⟨fun _ _ F => gR rfl rfl (arm_fieldF rfl (F.k 3 (Value.pointer (some ⟨w.heap.size + 1, 0, none⟩))) (run_field0 _)).b, ?_⟩
        refine ⟨fun _ _ F => gR rfl rfl (arm_loadS rfl (F.f 2 rfl) (V1.mono F.below)).b, ?_⟩
        refine ⟨fun _ _ F => gR rfl rfl (arm_bin rfl (F.f 1 rfl) (F.f 3 rfl) (fun _ => rfl) (fun w => by rw [H1.out]; exact run_eqBB _ _ w)).b, ?_⟩
        refine ⟨fun _ _ F => gR rfl rfl (arm_move (.inl rfl) (F.f 4 rfl)).b, ?_⟩
        refine ⟨fun _ _ F => gS F rfl rfl rfl rfl rfl rfl, ?_⟩
        refine ⟨fun _ _ F => gS F rfl rfl rfl rfl rfl rfl, ?_⟩
        refine ⟨fun _ _ F => gS F rfl rfl rfl rfl rfl rfl, ?_⟩
        refine ⟨fun _ _ F => gS F rfl rfl rfl rfl rfl rfl, ?_⟩
        refine ⟨fun _ _ F => gS F rfl rfl rfl rfl rfl rfl, ?_⟩
        refine ⟨fun _ _ F => gR rfl rfl (arm_pick rfl (F.f 5 rfl) (fun h => by cases h) (fun _ => Is.const)).b, ?_⟩
        refine ⟨fun _ _ F => gR rfl rfl (arm_move (.inl rfl) (F.f 11 rfl)).b, ?_⟩
        refine ⟨fun _ _ F => gS F rfl rfl rfl rfl rfl rfl, ?_⟩
        refine ⟨fun _ _ F => gS F rfl rfl rfl rfl rfl rfl, ?_⟩
        refine ⟨fun _ _ F => gS F rfl rfl rfl rfl rfl rfl, ?_⟩
        refine ⟨fun _ _ F => gS F rfl rfl rfl rfl rfl rfl, ?_⟩
        refine ⟨fun _ _ F => gS F rfl rfl rfl rfl rfl rfl, ?_⟩
        refine ⟨fun _ _ F => gR rfl rfl (arm_pick rfl (F.f 12 rfl) (fun h => by cases h) (fun _ => Is.const)).b, ?_⟩
        refine ⟨fun _ _ F => gR rfl rfl (arm_move (.inr rfl) (F.f 18 rfl)).b, ?_⟩
        exact trivial
      intro E' hE gp wp bp G Gs
      obtain rfl : E' = [] := by simpa [subs] using hE
      have e_19 : gp 19 = Value.bool false := G 19 4 _ (by simp) rfl
      clear G Gs hE
      simp only [SameT3]
      simp only [qA, setD, qZ, qS, e_19]
      refine wpAny_done (by kernel_rfl) ?_ _
      go_wp2_with fail
      go_meet
      case rel => exact ⟨rfl, (V0.mono bp), (V1.mono bp), (hb1.trans (bp.mono hb1.size))⟩
    case rest =>
    clear V0 V1 hb1
    obtain ⟨rfl, V0, V1, hb1⟩ := hcut
    go_wp2
    go_ret
    exact ⟨rfl, hb1⟩
theorem q_Same (va vb : Value) (x y : Fq) (w : World) (ha : IsQ w va x) (hb : IsQ w vb y) (h : x.ok 1000000000) (k : y.ok 1000000000) : Calls Try.prog 16 #[va, vb] w fun e w' => RetV w (.bool (x.same y)) e w' :=
  q_SameB va vb x y w ha hb (Nat.le_trans h.p (by decide)) (Nat.le_trans h.q (by decide)) (Nat.le_trans k.p (by decide)) (Nat.le_trans k.q (by decide))
end Go.Proofs.Ytldnimohnbjfaaa
namespace Go.Proofs.Ytldnimohnbjfaaa
set_option linter.unusedSimpArgs false
set_option linter.unusedVariables false
set_option maxRecDepth 100000
open Go.RowKit
def awakeT0 (base : Nat) : List (Nat × Tmp × Sp) :=
   [(0, 14, .pair (.fq (Fq.mk false 1 3)) (.val (Value.int IntKind.i64 0))),
    (1, 13, .pair (.fq (Fq.mk false 1 3)) (.val (Value.int IntKind.i64 0))),
    (2, 15, .fq (Fq.mk false 1 3)),
    (3, 16, .val (Value.int IntKind.i64 0)),
    (4, 1, .varF base)]
def awakeT1 (base : Nat) : List (Nat × Tmp × Sp) :=
   [(0, 18, .pair (.fq (Fq.mk false 1 6)) (.val (Value.int IntKind.i64 0))),
    (1, 17, .pair (.fq (Fq.mk false 1 6)) (.val (Value.int IntKind.i64 0))),
    (2, 19, .fq (Fq.mk false 1 6)),
    (3, 20, .val (Value.int IntKind.i64 0)),
    (4, 3, .varF base)]
def awakeT2 (base : Nat) : List (Nat × Tmp × Sp) :=
   [(0, 22, .pair (.fq (Fq.mk false 1 2)) (.val (Value.int IntKind.i64 0))),
    (1, 21, .pair (.fq (Fq.mk false 1 2)) (.val (Value.int IntKind.i64 0))),
    (2, 23, .fq (Fq.mk false 1 2)),
    (3, 24, .val (Value.int IntKind.i64 0)),
    (4, 5, .varF base)]
def awakeT3 (base : Nat) : List (Nat × Tmp × Sp) :=
   [(0, 26, .pair (.fq Fq.zero) (.val (Value.int IntKind.i64 8))),
    (1, 25, .pair (.fq Fq.zero) (.val (Value.int IntKind.i64 8))),
    (2, 27, .fq Fq.zero),
    (3, 28, .val (Value.int IntKind.i64 8)),
    (4, 7, .varF base)]
def awakeT4 (base : Nat) : List (Nat × Tmp × Sp) :=
   [(0, 30, .pair (.fq Fq.zero) (.val (Value.int IntKind.i64 2))),
    (1, 29, .pair (.fq Fq.zero) (.val (Value.int IntKind.i64 2))),
    (2, 31, .fq Fq.zero),
    (3, 32, .val (Value.int IntKind.i64 2)),
    (4, 9, .varF base)]
def awakeT5  : List (Nat × Tmp × Sp) :=
   [(0, 34, .fq (Fq.mk false 1 2)),
    (1, 35, .fq (Fq.mk true 1 2)),
    (2, 36, .pair (.val (Value.int IntKind.i64 (-1))) (.val (Value.bool true))),
    (3, 33, .pair (.val (Value.int IntKind.i64 (-1))) (.val (Value.bool true))),
    (4, 37, .val (Value.int IntKind.i64 (-1))),
    (5, 38, .val (Value.bool true)),
    (6, 11, .val (Value.int IntKind.i64 (-1))),
    (7, 12, .val (Value.bool true))]
def awakeT6  : List (Nat × Tmp × Sp) :=
   [(0, 39, .val (Value.int IntKind.i64 0)),
    (1, 40, .val (Value.bool true)),
    (2, 41, .val (Value.bool true)),
    (3, 42, .val (Value.int IntKind.i64 0)),
    (4, 43, .val (Value.bool true)),
    (5, 44, .val (Value.bool true)),
    (6, 45, .val (Value.bool true)),
    (7, 46, .val (Value.int IntKind.i64 0)),
    (8, 47, .val (Value.bool true)),
    (9, 48, .val (Value.bool true)),
    (10, 49, .val (Value.bool true)),
    (11, 50, .val (Value.int IntKind.i64 8)),
    (12, 51, .val (Value.bool true)),
    (13, 52, .val (Value.bool true)),
    (14, 53, .val (Value.bool true)),
    (15, 54, .val (Value.int IntKind.i64 2)),
    (16, 55, .val (Value.bool true)),
    (17, 56, .val (Value.bool true)),
    (18, 57, .val (Value.bool true)),
    (19, 58, .val (Value.int IntKind.i64 (-1))),
    (20, 59, .val (Value.bool true)),
    (21, 60, .val (Value.bool true)),
    (22, 61, .val (Value.bool true)),
    (23, 62, .val (Value.bool true)),
    (24, 63, .val (Value.bool true)),
    (25, 64, .val (Value.bool true)),
    (26, 65, .fq (Fq.mk false 1 3)),
    (27, 66, .fq (Fq.mk false 1 6)),
    (28, 67, .fq (Fq.mk false 1 2)),
    (29, 68, .fq (Fq.mk false 1 2)),
    (30, 69, .val (Value.bool true)),
    (31, 70, .val (Value.bool true)),
    (32, 71, .val (Value.bool true)),
    (33, 72, .fq (Fq.mk false 1 2)),
    (34, 73, .fq (Fq.mk true 1 2)),
    (35, 74, .val (Value.string { data := #[45, 49, 47, 50] })),
    (36, 75, .val (Value.bool true)),
    (37, 76, .val (Value.bool true)),
    (38, 0, .val (Value.bool true))]
set_option maxHeartbeats 4000000 in
theorem c_awake2 (w : World) :
    Calls Try.prog 11 #[] w fun e w' => RetV w (.bool true) e w' := by
  go_enter Try.func11, Try.ntmps11
  go_upto_region 0 with (fail)
  go_cut [0] (fun s_0 wx => s_0 = Value.bool false ∧ Below w.heap.size w wx)
  case first =>
    go_wp2_with fail
    go_meet
    case rel => exact ⟨rfl, Below.refl _ _⟩
  case rest =>
  obtain ⟨rfl, hb1⟩ := hcut
  go_upto_region 1 with (fail)
  go_cut [1, 2] (fun s_1 s_2 wx => ∃ g1, s_1 = Value.pointer (some ⟨g1, 0, none⟩) ∧ s_2 = Value.int IntKind.i64 0 ∧ w.heap.size + 0 ≤ g1 ∧ VarQ wx g1 (Fq.mk false 1 3) ∧ Below w.heap.size w wx)
  case first =>
    obtain ⟨base, hbase0⟩ : ∃ b : Nat, Hid (b = wc.heap.size) := ⟨_, Lib.hid rfl⟩
    have hbase : base ≤ wc.heap.size := by rw [hbase0.out]; exact Nat.le_refl _
    have hbw : w.heap.size + 0 ≤ base := by have := hb1.size; rw [hbase0.out]; omega
    refine wp_tabGF Try.f11 1 (awakeT0 base) [3] (fun i => i == 4) 5 2 (by kernel_rfl) (by kernel_rfl) (by kernel_rfl) (by kernel_rfl) (by kernel_rfl) ⟨fun h => (by cases h), ⟨fun h => (by cases h), ⟨fun h => (by cases h), ⟨fun h => (by cases h), ⟨fun _ w v h => Sp.varF_lt h, trivial⟩⟩⟩⟩⟩ ?_ ?_
    · refine ⟨fun _ _ F => gR rfl rfl (arm_C2 rfl (enters Try.func20 rfl rfl) Is.const Is.const (fun va vb w h1 h2 => by have e_va : va = _ := h1; subst e_va; have e_vb : vb = _ := h2; subst e_vb; exact q_fRatio 1 3 w (by decide) (by decide) (by decide) (by decide) (by decide)) (fun _ _ h => by rw [e13]; exact ofQE h)).b, ?_⟩
      refine ⟨fun _ _ F => gR rfl rfl (arm_move (.inl rfl) (F.f 0 rfl)).b, ?_⟩
      refine ⟨fun _ _ F => gR rfl rfl (arm_pair0 rfl (F.f 1 rfl)).b, ?_⟩
      refine ⟨fun _ _ F => gR rfl rfl (arm_pair1 rfl (F.f 1 rfl)).b, ?_⟩
      refine ⟨fun _ _ F => gR rfl rfl (arm_allocF rfl (Nat.le_trans hbase F.below.size)), ?_⟩
      exact trivial
    intro E' hE gp wp bp G Gs
    simp only [subs, List.map_cons, List.map_nil, List.nil_append, List.cons_append, List.mem_cons, List.not_mem_nil, or_false, List.append_nil] at hE
    rcases hE with rfl | rfl
    · obtain ⟨g1, e_4, lg_4, hv_4⟩ := G 4 1 _ (by simp) rfl
      have n_2 : (Sp.fq (Fq.mk false 1 3)).p wp (gp 2) := G 2 15 _ (by simp) rfl
      have e_3 : gp 3 = Value.int IntKind.i64 0 := G 3 16 _ (by simp) rfl
      clear G Gs
      simp only [awakeT0]
      simp only [qA, setD, qZ, qS, e_4, e_3]
      have T0 := hv_4
      refine wpAny_storeFr (j := 5) (by kernel_rfl) rfl rfl rfl rfl rfl n_2 T0.any ?_
      intro w0 u0 v0
      have O0 := T0.own
      refine wpAny_takeD (i := 6) (d := some 2) (v := Value.int IntKind.i64 0) rfl rfl (by kernel_rfl) (by kernel_rfl) (by kernel_rfl) (fun _ _ _ h => h) (Or.inl ⟨by rfl, fun w => by rfl⟩) ?_
      try simp only [qP, qZ, qS]
      refine wpAny_done (by kernel_rfl) ?_ _
      go_wp2_with fail
      go_meet
      case rel => exact ⟨g1, rfl, rfl, (by omega), v0, (Upd.below (hb1.trans (bp.mono hb1.size)) u0 (by omega))⟩
    · obtain ⟨g1, e_4, lg_4, hv_4⟩ := G 4 1 _ (by simp) rfl
      obtain ⟨x_1_0, x_1_1, e_1, n_1_0, rfl⟩ := G 1 13 _ (by simp) rfl
      have n_2 : (Sp.fq (Fq.mk false 1 3)).p wp (gp 2) := G 2 15 _ (by simp) rfl
      clear G Gs
      simp only [awakeT0]
      simp only [qA, setD, qZ, qS, e_4, e_1]
      refine wpAny_takeD (i := 3) (d := some 16) (v := Value.int IntKind.i64 0) rfl rfl (by kernel_rfl) (by kernel_rfl) (by kernel_rfl) (fun _ _ _ h => h) (Or.inl ⟨by rfl, fun w => by rfl⟩) ?_
      try simp only [qP, qZ, qS]
      have T0 := hv_4
      refine wpAny_storeFr (j := 5) (by kernel_rfl) rfl rfl rfl rfl rfl n_2 T0.any ?_
      intro w0 u0 v0
      have O0 := T0.own
      refine wpAny_takeD (i := 6) (d := some 2) (v := Value.int IntKind.i64 0) rfl rfl (by kernel_rfl) (by kernel_rfl) (by kernel_rfl) (fun _ _ _ h => h) (Or.inl ⟨by rfl, fun w => by rfl⟩) ?_
      try simp only [qP, qZ, qS]
      refine wpAny_done (by kernel_rfl) ?_ _
      go_wp2_with fail
      go_meet
      case rel => exact ⟨g1, rfl, rfl, (by omega), v0, (Upd.below (hb1.trans (bp.mono hb1.size)) u0 (by omega))⟩
  case rest =>
  clear hb1
  obtain ⟨g1, rfl, rfl, lg1, V1, hb1⟩ := hcut
  go_upto_region 2 with (fail)
  go_cut [3, 4] (fun s_3 s_4 wx => ∃ g3, s_3 = Value.pointer (some ⟨g3, 0, none⟩) ∧ s_4 = Value.int IntKind.i64 0 ∧ w.heap.size + 0 ≤ g3 ∧ g1 < g3 ∧ VarQ wx g3 (Fq.mk false 1 6) ∧ VarQ wx g1 (Fq.mk false 1 3) ∧ Below w.heap.size w wx)
  case first =>
    obtain ⟨base, hbase0⟩ : ∃ b : Nat, Hid (b = wc.heap.size) := ⟨_, Lib.hid rfl⟩
    have hbase : base ≤ wc.heap.size := by rw [hbase0.out]; exact Nat.le_refl _
    have hbw : w.heap.size + 0 ≤ base := by have := hb1.size; rw [hbase0.out]; omega
    have l_V1 : g1 < base := by rw [hbase0.out]; exact V1.lt
    refine wp_tabGF Try.f11 2 (awakeT1 base) [3] (fun i => i == 4) 5 2 (by kernel_rfl) (by kernel_rfl) (by kernel_rfl) (by kernel_rfl) (by kernel_rfl) ⟨fun h => (by cases h), ⟨fun h => (by cases h), ⟨fun h => (by cases h), ⟨fun h => (by cases h), ⟨fun _ w v h => Sp.varF_lt h, trivial⟩⟩⟩⟩⟩ ?_ ?_
    · refine ⟨fun _ _ F => gR rfl rfl (arm_C2 rfl (enters Try.func20 rfl rfl) Is.const Is.const (fun va vb w h1 h2 => by have e_va : va = _ := h1; subst e_va; have e_vb : vb = _ := h2; subst e_vb; exact q_fRatio 1 6 w (by decide) (by decide) (by decide) (by decide) (by decide)) (fun _ _ h => by rw [e16]; exact ofQE h)).b, ?_⟩
      refine ⟨fun _ _ F => gR rfl rfl (arm_move (.inl rfl) (F.f 0 rfl)).b, ?_⟩
      refine ⟨fun _ _ F => gR rfl rfl (arm_pair0 rfl (F.f 1 rfl)).b, ?_⟩
      refine ⟨fun _ _ F => gR rfl rfl (arm_pair1 rfl (F.f 1 rfl)).b, ?_⟩
      refine ⟨fun _ _ F => gR rfl rfl (arm_allocF rfl (Nat.le_trans hbase F.below.size)), ?_⟩
      exact trivial
    intro E' hE gp wp bp G Gs
    simp only [subs, List.map_cons, List.map_nil, List.nil_append, List.cons_append, List.mem_cons, List.not_mem_nil, or_false, List.append_nil] at hE
    rcases hE with rfl | rfl
    · obtain ⟨g3, e_4, lg_4, hv_4⟩ := G 4 3 _ (by simp) rfl
      have n_2 : (Sp.fq (Fq.mk false 1 6)).p wp (gp 2) := G 2 19 _ (by simp) rfl
      have e_3 : gp 3 = Value.int IntKind.i64 0 := G 3 20 _ (by simp) rfl
      clear G Gs
      simp only [awakeT1]
      simp only [qA, setD, qZ, qS, e_4, e_3]
      have T0 := hv_4
      refine wpAny_storeFr (j := 5) (by kernel_rfl) rfl rfl rfl rfl rfl n_2 T0.any ?_
      intro w0 u0 v0
      have O0 := T0.own
      refine wpAny_takeD (i := 6) (d := some 4) (v := Value.int IntKind.i64 0) rfl rfl (by kernel_rfl) (by kernel_rfl) (by kernel_rfl) (fun _ _ _ h => h) (Or.inl ⟨by rfl, fun w => by rfl⟩) ?_
      try simp only [qP, qZ, qS]
      refine wpAny_done (by kernel_rfl) ?_ _
      go_wp2_with fail
      go_meet
      case rel => exact ⟨g3, rfl, rfl, (by omega), (by omega), v0, ((V1.mono bp).upd O0 u0 (by omega)), (Upd.below (hb1.trans (bp.mono hb1.size)) u0 (by omega))⟩
    · obtain ⟨g3, e_4, lg_4, hv_4⟩ := G 4 3 _ (by simp) rfl
      obtain ⟨x_1_0, x_1_1, e_1, n_1_0, rfl⟩ := G 1 17 _ (by simp) rfl
      have n_2 : (Sp.fq (Fq.mk false 1 6)).p wp (gp 2) := G 2 19 _ (by simp) rfl
      clear G Gs
      simp only [awakeT1]
      simp only [qA, setD, qZ, qS, e_4, e_1]
      refine wpAny_takeD (i := 3) (d := some 20) (v := Value.int IntKind.i64 0) rfl rfl (by kernel_rfl) (by kernel_rfl) (by kernel_rfl) (fun _ _ _ h => h) (Or.inl ⟨by rfl, fun w => by rfl⟩) ?_
      try simp only [qP, qZ, qS]
      have T0 := hv_4
      refine wpAny_storeFr (j := 5) (by kernel_rfl) rfl rfl rfl rfl rfl n_2 T0.any ?_
      intro w0 u0 v0
      have O0 := T0.own
      refine wpAny_takeD (i := 6) (d := some 4) (v := Value.int IntKind.i64 0) rfl rfl (by kernel_rfl) (by kernel_rfl) (by kernel_rfl) (fun _ _ _ h => h) (Or.inl ⟨by rfl, fun w => by rfl⟩) ?_
      try simp only [qP, qZ, qS]
      refine wpAny_done (by kernel_rfl) ?_ _
      go_wp2_with fail
      go_meet
      case rel => exact ⟨g3, rfl, rfl, (by omega), (by omega), v0, ((V1.mono bp).upd O0 u0 (by omega)), (Upd.below (hb1.trans (bp.mono hb1.size)) u0 (by omega))⟩
  case rest =>
  clear V1 hb1
  obtain ⟨g3, rfl, rfl, lg3, d2_0, V3, V1, hb1⟩ := hcut
  go_upto_region 3 with (fail)
  go_cut [5, 6] (fun s_5 s_6 wx => ∃ g5, s_5 = Value.pointer (some ⟨g5, 0, none⟩) ∧ s_6 = Value.int IntKind.i64 0 ∧ w.heap.size + 0 ≤ g5 ∧ g1 < g5 ∧ g3 < g5 ∧ VarQ wx g5 (Fq.mk false 1 2) ∧ VarQ wx g1 (Fq.mk false 1 3) ∧ VarQ wx g3 (Fq.mk false 1 6) ∧ Below w.heap.size w wx)
  case first =>
    obtain ⟨base, hbase0⟩ : ∃ b : Nat, Hid (b = wc.heap.size) := ⟨_, Lib.hid rfl⟩
    have hbase : base ≤ wc.heap.size := by rw [hbase0.out]; exact Nat.le_refl _
    have hbw : w.heap.size + 0 ≤ base := by have := hb1.size; rw [hbase0.out]; omega
    have l_V1 : g1 < base := by rw [hbase0.out]; exact V1.lt
    have l_V3 : g3 < base := by rw [hbase0.out]; exact V3.lt
    refine wp_tabGF Try.f11 3 (awakeT2 base) [3] (fun i => i == 4) 5 2 (by kernel_rfl) (by kernel_rfl) (by kernel_rfl) (by kernel_rfl) (by kernel_rfl) ⟨fun h => (by cases h), ⟨fun h => (by cases h), ⟨fun h => (by cases h), ⟨fun h => (by cases h), ⟨fun _ w v h => Sp.varF_lt h, trivial⟩⟩⟩⟩⟩ ?_ ?_
    · refine ⟨fun _ _ F => gR rfl rfl (arm_C2 rfl (enters Try.func20 rfl rfl) Is.const Is.const (fun va vb w h1 h2 => by have e_va : va = _ := h1; subst e_va; have e_vb : vb = _ := h2; subst e_vb; exact q_fRatio (-1) (-2) w (by decide) (by decide) (by decide) (by decide) (by decide)) (fun _ _ h => by rw [e12]; exact ofQE h)).b, ?_⟩
      refine ⟨fun _ _ F => gR rfl rfl (arm_move (.inl rfl) (F.f 0 rfl)).b, ?_⟩
      refine ⟨fun _ _ F => gR rfl rfl (arm_pair0 rfl (F.f 1 rfl)).b, ?_⟩
      refine ⟨fun _ _ F => gR rfl rfl (arm_pair1 rfl (F.f 1 rfl)).b, ?_⟩
      refine ⟨fun _ _ F => gR rfl rfl (arm_allocF rfl (Nat.le_trans hbase F.below.size)), ?_⟩
      exact trivial
    intro E' hE gp wp bp G Gs
    simp only [subs, List.map_cons, List.map_nil, List.nil_append, List.cons_append, List.mem_cons, List.not_mem_nil, or_false, List.append_nil] at hE
    rcases hE with rfl | rfl
    · obtain ⟨g5, e_4, lg_4, hv_4⟩ := G 4 5 _ (by simp) rfl
      have n_2 : (Sp.fq (Fq.mk false 1 2)).p wp (gp 2) := G 2 23 _ (by simp) rfl
      have e_3 : gp 3 = Value.int IntKind.i64 0 := G 3 24 _ (by simp) rfl
      clear G Gs
      simp only [awakeT2]
      simp only [qA, setD, qZ, qS, e_4, e_3]
      have T0 := hv_4
      refine wpAny_storeFr (j := 5) (by kernel_rfl) rfl rfl rfl rfl rfl n_2 T0.any ?_
      intro w0 u0 v0
      have O0 := T0.own
      refine wpAny_takeD (i := 6) (d := some 6) (v := Value.int IntKind.i64 0) rfl rfl (by kernel_rfl) (by kernel_rfl) (by kernel_rfl) (fun _ _ _ h => h) (Or.inl ⟨by rfl, fun w => by rfl⟩) ?_
      try simp only [qP, qZ, qS]
      refine wpAny_done (by kernel_rfl) ?_ _
      go_wp2_with fail
      go_meet
      case rel => exact ⟨g5, rfl, rfl, (by omega), (by omega), (by omega), v0, ((V1.mono bp).upd O0 u0 (by omega)), ((V3.mono bp).upd O0 u0 (by omega)), (Upd.below (hb1.trans (bp.mono hb1.size)) u0 (by omega))⟩
    · obtain ⟨g5, e_4, lg_4, hv_4⟩ := G 4 5 _ (by simp) rfl
      obtain ⟨x_1_0, x_1_1, e_1, n_1_0, rfl⟩ := G 1 21 _ (by simp) rfl
      have n_2 : (Sp.fq (Fq.mk false 1 2)).p wp (gp 2) := G 2 23 _ (by simp) rfl
      clear G Gs
      simp only [awakeT2]
      simp only [qA, setD, qZ, qS, e_4, e_1]
      refine wpAny_takeD (i := 3) (d := some 24) (v := Value.int IntKind.i64 0) rfl rfl (by kernel_rfl) (by kernel_rfl) (by kernel_rfl) (fun _ _ _ h => h) (Or.inl ⟨by rfl, fun w => by rfl⟩) ?_
      try simp only [qP, qZ, qS]
      have T0 := hv_4
      refine wpAny_storeFr (j := 5) (by kernel_rfl) rfl rfl rfl rfl rfl n_2 T0.any ?_
      intro w0 u0 v0
      have O0 := T0.own
      refine wpAny_takeD (i := 6) (d := some 6) (v := Value.int IntKind.i64 0) rfl rfl (by kernel_rfl) (by kernel_rfl) (by kernel_rfl) (fun _ _ _ h => h) (Or.inl ⟨by rfl, fun w => by rfl⟩) ?_
      try simp only [qP, qZ, qS]
      refine wpAny_done (by kernel_rfl) ?_ _
      go_wp2_with fail
      go_meet
      case rel => exact ⟨g5, rfl, rfl, (by omega), (by omega), (by omega), v0, ((V1.mono bp).upd O0 u0 (by omega)), ((V3.mono bp).upd O0 u0 (by omega)), (Upd.below (hb1.trans (bp.mono hb1.size)) u0 (by omega))⟩
  case rest =>
  clear V1 V3 hb1
  obtain ⟨g5, rfl, rfl, lg5, d3_0, d3_1, V5, V1, V3, hb1⟩ := hcut
  go_upto_region 4 with (fail)
  go_cut [7, 8] (fun s_7 s_8 wx => ∃ g7, s_7 = Value.pointer (some ⟨g7, 0, none⟩) ∧ s_8 = Value.int IntKind.i64 8 ∧ w.heap.size + 0 ≤ g7 ∧ g1 < g7 ∧ g3 < g7 ∧ g5 < g7 ∧ VarQ wx g7 Fq.zero ∧ VarQ wx g1 (Fq.mk false 1 3) ∧ VarQ wx g3 (Fq.mk false 1 6) ∧ VarQ wx g5 (Fq.mk false 1 2) ∧ Below w.heap.size w wx)
  case first =>
    obtain ⟨base, hbase0⟩ : ∃ b : Nat, Hid (b = wc.heap.size) := ⟨_, Lib.hid rfl⟩
    have hbase : base ≤ wc.heap.size := by rw [hbase0.out]; exact Nat.le_refl _
    have hbw : w.heap.size + 0 ≤ base := by have := hb1.size; rw [hbase0.out]; omega
    have l_V1 : g1 < base := by rw [hbase0.out]; exact V1.lt
    have l_V3 : g3 < base := by rw [hbase0.out]; exact V3.lt
    have l_V5 : g5 < base := by rw [hbase0.out]; exact V5.lt
    refine wp_tabGF Try.f11 4 (awakeT3 base) [3] (fun i => i == 4) 5 2 (by kernel_rfl) (by kernel_rfl) (by kernel_rfl) (by kernel_rfl) (by kernel_rfl) ⟨fun h => (by cases h), ⟨fun h => (by cases h), ⟨fun h => (by cases h), ⟨fun h => (by cases h), ⟨fun _ w v h => Sp.varF_lt h, trivial⟩⟩⟩⟩⟩ ?_ ?_
    · refine ⟨fun _ _ F => gR rfl rfl (arm_C2 rfl (enters Try.func20 rfl rfl) Is.const Is.const (fun va vb w h1 h2 => by have e_va : va = _ := h1; subst e_va; have e_vb : vb = _ := h2; subst e_vb; exact q_fRatio0 1 0 w (by decide) (by decide) (by decide) (by decide) rfl) (fun _ _ h => ofQE h)).b, ?_⟩
      refine ⟨fun _ _ F => gR rfl rfl (arm_move (.inl rfl) (F.f 0 rfl)).b, ?_⟩
      refine ⟨fun _ _ F => gR rfl rfl (arm_pair0 rfl (F.f 1 rfl)).b, ?_⟩
      refine ⟨fun _ _ F => gR rfl rfl (arm_pair1 rfl (F.f 1 rfl)).b, ?_⟩
      refine ⟨fun _ _ F => gR rfl rfl (arm_allocF rfl (Nat.le_trans hbase F.below.size)), ?_⟩
      exact trivial
    intro E' hE gp wp bp G Gs
    simp only [subs, List.map_cons, List.map_nil, List.nil_append, List.cons_append, List.mem_cons, List.not_mem_nil, or_false, List.append_nil] at hE
    rcases hE with rfl | rfl
    · obtain ⟨g7, e_4, lg_4, hv_4⟩ := G 4 7 _ (by simp) rfl
      have n_2 : (Sp.fq Fq.zero).p wp (gp 2) := G 2 27 _ (by simp) rfl
      have e_3 : gp 3 = Value.int IntKind.i64 8 := G 3 28 _ (by simp) rfl
      clear G Gs
      simp only [awakeT3]
      simp only [qA, setD, qZ, qS, e_4, e_3]
      have T0 := hv_4
      refine wpAny_storeFr (j := 5) (by kernel_rfl) rfl rfl rfl rfl rfl n_2 T0.any ?_
      intro w0 u0 v0
      have O0 := T0.own
      refine wpAny_takeD (i := 6) (d := some 8) (v := Value.int IntKind.i64 8) rfl rfl (by kernel_rfl) (by kernel_rfl) (by kernel_rfl) (fun _ _ _ h => h) (Or.inl ⟨by rfl, fun w => by rfl⟩) ?_
      try simp only [qP, qZ, qS]
      refine wpAny_done (by kernel_rfl) ?_ _
      go_wp2_with fail
      go_meet
      case rel => exact ⟨g7, rfl, rfl, (by omega), (by omega), (by omega), (by omega), v0, ((V1.mono bp).upd O0 u0 (by omega)), ((V3.mono bp).upd O0 u0 (by omega)), ((V5.mono bp).upd O0 u0 (by omega)), (Upd.below (hb1.trans (bp.mono hb1.size)) u0 (by omega))⟩
    · obtain ⟨g7, e_4, lg_4, hv_4⟩ := G 4 7 _ (by simp) rfl
      obtain ⟨x_1_0, x_1_1, e_1, n_1_0, rfl⟩ := G 1 25 _ (by simp) rfl
      have n_2 : (Sp.fq Fq.zero).p wp (gp 2) := G 2 27 _ (by simp) rfl
      clear G Gs
      simp only [awakeT3]
      simp only [qA, setD, qZ, qS, e_4, e_1]
      refine wpAny_takeD (i := 3) (d := some 28) (v := Value.int IntKind.i64 8) rfl rfl (by kernel_rfl) (by kernel_rfl) (by kernel_rfl) (fun _ _ _ h => h) (Or.inl ⟨by rfl, fun w => by rfl⟩) ?_
      try simp only [qP, qZ, qS]
      have T0 := hv_4
      refine wpAny_storeFr (j := 5) (by kernel_rfl) rfl rfl rfl rfl rfl n_2 T0.any ?_
      intro w0 u0 v0
      have O0 := T0.own
      refine wpAny_takeD (i := 6) (d := some 8) (v := Value.int IntKind.i64 8) rfl rfl (by kernel_rfl) (by kernel_rfl) (by kernel_rfl) (fun _ _ _ h => h) (Or.inl ⟨by rfl, fun w => by rfl⟩) ?_
      try simp only [qP, qZ, qS]
      refine wpAny_done (by kernel_rfl) ?_ _
      go_wp2_with fail
      go_meet
      case rel => exact ⟨g7, rfl, rfl, (by omega), (by omega), (by omega), (by omega), v0, ((V1.mono bp).upd O0 u0 (by omega)), ((V3.mono bp).upd O0 u0 (by omega)), ((V5.mono bp).upd O0 u0 (by omega)), (Upd.below (hb1.trans (bp.mono hb1.size)) u0 (by omega))⟩
  case rest =>
  clear V1 V3 V5 hb1
  obtain ⟨g7, rfl, rfl, lg7, d4_0, d4_1, d4_2, V7, V1, V3, V5, hb1⟩ := hcut
  go_upto_region 5 with (fail)
  go_cut [9, 10] (fun s_9 s_10 wx => ∃ g9, s_9 = Value.pointer (some ⟨g9, 0, none⟩) ∧ s_10 = Value.int IntKind.i64 2 ∧ w.heap.size + 0 ≤ g9 ∧ g1 < g9 ∧ g3 < g9 ∧ g5 < g9 ∧ g7 < g9 ∧ VarQ wx g9 Fq.zero ∧ VarQ wx g1 (Fq.mk false 1 3) ∧ VarQ wx g3 (Fq.mk false 1 6) ∧ VarQ wx g5 (Fq.mk false 1 2) ∧ VarQ wx g7 Fq.zero ∧ Below w.heap.size w wx)
  case first =>
    obtain ⟨base, hbase0⟩ : ∃ b : Nat, Hid (b = wc.heap.size) := ⟨_, Lib.hid rfl⟩
    have hbase : base ≤ wc.heap.size := by rw [hbase0.out]; exact Nat.le_refl _
    have hbw : w.heap.size + 0 ≤ base := by have := hb1.size; rw [hbase0.out]; omega
    have l_V1 : g1 < base := by rw [hbase0.out]; exact V1.lt
    have l_V3 : g3 < base := by rw [hbase0.out]; exact V3.lt
    have l_V5 : g5 < base := by rw [hbase0.out]; exact V5.lt
    have l_V7 : g7 < base := by rw [hbase0.out]; exact V7.lt
    refine wp_tabGF Try.f11 5 (awakeT4 base) [3] (fun i => i == 4) 5 2 (by kernel_rfl) (by kernel_rfl) (by kernel_rfl) (by kernel_rfl) (by kernel_rfl) ⟨fun h => (by cases h), ⟨fun h => (by cases h), ⟨fun h => (by cases h), ⟨fun h => (by cases h), ⟨fun _ w v h => Sp.varF_lt h, trivial⟩⟩⟩⟩⟩ ?_ ?_
    · refine ⟨fun _ _ F => gR rfl rfl (arm_C1 rfl (enters Try.func14 rfl rfl) Is.const (fun va w h1 => by have e_va : va = _ := h1; subst e_va; exact q_fParse _ _ _ w fp24 (by decide)) (fun _ _ h => ofQE h)).b, ?_⟩
      refine ⟨fun _ _ F => gR rfl rfl (arm_move (.inl rfl) (F.f 0 rfl)).b, ?_⟩
      refine ⟨fun _ _ F => gR rfl rfl (arm_pair0 rfl (F.f 1 rfl)).b, ?_⟩
      refine ⟨fun _ _ F => gR rfl rfl (arm_pair1 rfl (F.f 1 rfl)).b, ?_⟩
      refine ⟨fun _ _ F => gR rfl rfl (arm_allocF rfl (Nat.le_trans hbase F.below.size)), ?_⟩
      exact trivial
    intro E' hE gp wp bp G Gs
    simp only [subs, List.map_cons, List.map_nil, List.nil_append, List.cons_append, List.mem_cons, List.not_mem_nil, or_false, List.append_nil] at hE
    rcases hE with rfl | rfl
    · obtain ⟨g9, e_4, lg_4, hv_4⟩ := G 4 9 _ (by simp) rfl
      have n_2 : (Sp.fq Fq.zero).p wp (gp 2) := G 2 31 _ (by simp) rfl
      have e_3 : gp 3 = Value.int IntKind.i64 2 := G 3 32 _ (by simp) rfl
      clear G Gs
      simp only [awakeT4]
      simp only [qA, setD, qZ, qS, e_4, e_3]
      have T0 := hv_4
      refine wpAny_storeFr (j := 5) (by kernel_rfl) rfl rfl rfl rfl rfl n_2 T0.any ?_
      intro w0 u0 v0
      have O0 := T0.own
      refine wpAny_takeD (i := 6) (d := some 10) (v := Value.int IntKind.i64 2) rfl rfl (by kernel_rfl) (by kernel_rfl) (by kernel_rfl) (fun _ _ _ h => h) (Or.inl ⟨by rfl, fun w => by rfl⟩) ?_
      try simp only [qP, qZ, qS]
      refine wpAny_done (by kernel_rfl) ?_ _
      go_wp2_with fail
      go_meet
      case rel => exact ⟨g9, rfl, rfl, (by omega), (by omega), (by omega), (by omega), (by omega), v0, ((V1.mono bp).upd O0 u0 (by omega)), ((V3.mono bp).upd O0 u0 (by omega)), ((V5.mono bp).upd O0 u0 (by omega)), ((V7.mono bp).upd O0 u0 (by omega)), (Upd.below (hb1.trans (bp.mono hb1.size)) u0 (by omega))⟩
    · obtain ⟨g9, e_4, lg_4, hv_4⟩ := G 4 9 _ (by simp) rfl
      obtain ⟨x_1_0, x_1_1, e_1, n_1_0, rfl⟩ := G 1 29 _ (by simp) rfl
      have n_2 : (Sp.fq Fq.zero).p wp (gp 2) := G 2 31 _ (by simp) rfl
      clear G Gs
      simp only [awakeT4]
      simp only [qA, setD, qZ, qS, e_4, e_1]
      refine wpAny_takeD (i := 3) (d := some 32) (v := Value.int IntKind.i64 2) rfl rfl (by kernel_rfl) (by kernel_rfl) (by kernel_rfl) (fun _ _ _ h => h) (Or.inl ⟨by rfl, fun w => by rfl⟩) ?_
      try simp only [qP, qZ, qS]
      have T0 := hv_4
      refine wpAny_storeFr (j := 5) (by kernel_rfl) rfl rfl rfl rfl rfl n_2 T0.any ?_
      intro w0 u0 v0
      have O0 := T0.own
      refine wpAny_takeD (i := 6) (d := some 10) (v := Value.int IntKind.i64 2) rfl rfl (by kernel_rfl) (by kernel_rfl) (by kernel_rfl) (fun _ _ _ h => h) (Or.inl ⟨by rfl, fun w => by rfl⟩) ?_
      try simp only [qP, qZ, qS]
      refine wpAny_done (by kernel_rfl) ?_ _
      go_wp2_with fail
      go_meet
      case rel => exact ⟨g9, rfl, rfl, (by omega), (by omega), (by omega), (by omega), (by omega), v0, ((V1.mono bp).upd O0 u0 (by omega)), ((V3.mono bp).upd O0 u0 (by omega)), ((V5.mono bp).upd O0 u0 (by omega)), ((V7.mono bp).upd O0 u0 (by omega)), (Upd.below (hb1.trans (bp.mono hb1.size)) u0 (by omega))⟩
  case rest =>
  clear V1 V3 V5 V7 hb1
  obtain ⟨g9, rfl, rfl, lg9, d5_0, d5_1, d5_2, d5_3, V9, V1, V3, V5, V7, hb1⟩ := hcut
  go_upto_region 6 with (fail)
  go_cut [11, 12] (fun s_11 s_12 wx => s_11 = Value.int IntKind.i64 (-1) ∧ s_12 = Value.bool true ∧ VarQ wx g1 (Fq.mk false 1 3) ∧ VarQ wx g3 (Fq.mk false 1 6) ∧ VarQ wx g5 (Fq.mk false 1 2) ∧ VarQ wx g7 Fq.zero ∧ VarQ wx g9 Fq.zero ∧ Below w.heap.size w wx)
  case first =>
    refine tF Try.f11 6 (awakeT5 ) [] 7 0 ?_ ?_
    · refine ⟨fun _ _ F => gR rfl rfl (arm_loadF rfl (F.k 5 (Value.pointer (some ⟨g5, 0, none⟩))) (V5.mono F.below)).b, ?_⟩
      refine ⟨fun _ _ F => gR rfl rfl (arm_C1 rfl (enters Try.func39 rfl rfl) (F.f 0 rfl) (fun va w h1 => q_fNeg va (Fq.mk false 1 2) w h1 (ok_of (by decide) (by decide) (by decide))) (fun _ _ h => by rw [eneg]; exact ofQ h)).b, ?_⟩
      refine ⟨fun _ _ F => gR rfl rfl (arm_C1 rfl (enters Try.func32 rfl rfl) (F.f 1 rfl) (fun va w h1 => q_fFloor va (Fq.mk true 1 2) w h1 (ok_of (by decide) (by decide) (by decide))) (fun _ _ h => ofFl12 h)).b, ?_⟩
      refine ⟨fun _ _ F => gR rfl rfl (arm_move (.inl rfl) (F.f 2 rfl)).b, ?_⟩
      refine ⟨fun _ _ F => gR rfl rfl (arm_pair0 rfl (F.f 3 rfl)).b, ?_⟩
      refine ⟨fun _ _ F => gR rfl rfl (arm_pair1 rfl (F.f 3 rfl)).b, ?_⟩
      refine ⟨fun _ _ F => gR rfl rfl (arm_move (.inr rfl) (F.f 4 rfl)).b, ?_⟩
      refine ⟨fun _ _ F => gR rfl rfl (arm_move (.inr rfl) (F.f 5 rfl)).b, ?_⟩
      exact trivial
    intro E' hE gp wp bp G Gs
    obtain rfl : E' = [] := by simpa [subs] using hE
    have e_6 : gp 6 = Value.int IntKind.i64 (-1) := G 6 11 _ (by simp) rfl
    have e_7 : gp 7 = Value.bool true := G 7 12 _ (by simp) rfl
    clear G Gs hE
    simp only [awakeT5]
    simp only [qA, setD, qZ, qS, e_6, e_7]
    refine wpAny_done (by kernel_rfl) ?_ _
    go_wp2_with fail
    go_meet
    case rel => exact ⟨rfl, rfl, (V1.mono bp), (V3.mono bp), (V5.mono bp), (V7.mono bp), (V9.mono bp), (hb1.trans (bp.mono hb1.size))⟩
  case rest =>
  clear V1 V3 V5 V7 V9 hb1
  obtain ⟨rfl, rfl, V1, V3, V5, V7, V9, hb1⟩ := hcut
  go_upto_region 7 with (fail)
  go_cut [0] (fun s_0 wx => s_0 = Value.bool true ∧ VarQ wx g1 (Fq.mk false 1 3) ∧ VarQ wx g3 (Fq.mk false 1 6) ∧ VarQ wx g5 (Fq.mk false 1 2) ∧ VarQ wx g7 Fq.zero ∧ VarQ wx g9 Fq.zero ∧ Below w.heap.size w wx)
  case first =>
    refine tG Try.f11 7 (awakeT6 ) [] 37 0 ?_ ?_
    · refine ⟨fun _ _ F => gR rfl rfl (arm_move (.inl rfl) (F.k 2 (Value.int IntKind.i64 0))).b, ?_⟩
      refine ⟨fun _ _ F => gR rfl rfl (arm_bin rfl (F.f 0 rfl) Is.const (fun _ => rfl) (fun _ => rfl)).b, ?_⟩
      refine ⟨fun _ _ F => gR rfl rfl (arm_move (.inl rfl) (F.f 1 rfl)).b, ?_⟩
      refine ⟨fun _ _ F => gG F rfl rfl rfl rfl (arm_move (.inl rfl) (F.k 4 (Value.int IntKind.i64 0))).b, ?_⟩
      refine ⟨fun _ _ F => gG F rfl rfl rfl rfl (arm_bin rfl (F.f 3 rfl) Is.const (fun _ => rfl) (fun _ => rfl)).b, ?_⟩
      refine ⟨fun _ _ F => gR rfl rfl (arm_pick rfl (F.f 2 rfl) (fun _ => (F.f 4 rfl)) (fun h => by cases h)).b, ?_⟩
      refine ⟨fun _ _ F => gR rfl rfl (arm_move (.inl rfl) (F.f 5 rfl)).b, ?_⟩
      refine ⟨fun _ _ F => gG F rfl rfl rfl rfl (arm_move (.inl rfl) (F.k 6 (Value.int IntKind.i64 0))).b, ?_⟩
      refine ⟨fun _ _ F => gG F rfl rfl rfl rfl (arm_bin rfl (F.f 7 rfl) Is.const (fun _ => rfl) (fun _ => rfl)).b, ?_⟩
      refine ⟨fun _ _ F => gR rfl rfl (arm_pick rfl (F.f 6 rfl) (fun _ => (F.f 8 rfl)) (fun h => by cases h)).b, ?_⟩
      refine ⟨fun _ _ F => gR rfl rfl (arm_move (.inl rfl) (F.f 9 rfl)).b, ?_⟩
      refine ⟨fun _ _ F => gG F rfl rfl rfl rfl (arm_move (.inl rfl) (F.k 8 (Value.int IntKind.i64 8))).b, ?_⟩
      refine ⟨fun _ _ F => gG F rfl rfl rfl rfl (arm_bin rfl (F.f 11 rfl) Is.const (fun _ => rfl) (fun _ => rfl)).b, ?_⟩
      refine ⟨fun _ _ F => gR rfl rfl (arm_pick rfl (F.f 10 rfl) (fun _ => (F.f 12 rfl)) (fun h => by cases h)).b, ?_⟩
      refine ⟨fun _ _ F => gR rfl rfl (arm_move (.inl rfl) (F.f 13 rfl)).b, ?_⟩
      refine ⟨fun _ _ F => gG F rfl rfl rfl rfl (arm_move (.inl rfl) (F.k 10 (Value.int IntKind.i64 2))).b, ?_⟩
      refine ⟨fun _ _ F => gG F rfl rfl rfl rfl (arm_bin rfl (F.f 15 rfl) Is.const (fun _ => rfl) (fun _ => rfl)).b, ?_⟩
      refine ⟨fun _ _ F => gR rfl rfl (arm_pick rfl (F.f 14 rfl) (fun _ => (F.f 16 rfl)) (fun h => by cases h)).b, ?_⟩
      refine ⟨fun _ _ F => gR rfl rfl (arm_move (.inl rfl) (F.f 17 rfl)).b, ?_⟩
      refine ⟨fun _ _ F => gG F rfl rfl rfl rfl (arm_move (.inl rfl) (F.k 11 (Value.int IntKind.i64 (-1)))).b, ?_⟩
      refine ⟨fun _ _ F => gG F rfl rfl rfl rfl (arm_bin rfl (F.f 19 rfl) Is.const (fun _ => rfl) (fun _ => rfl)).b, ?_⟩
      refine ⟨fun _ _ F => gR rfl rfl (arm_pick rfl (F.f 18 rfl) (fun _ => (F.f 20 rfl)) (fun h => by cases h)).b, ?_⟩
      refine ⟨fun _ _ F => gR rfl rfl (arm_move (.inl rfl) (F.f 21 rfl)).b, ?_⟩
      refine ⟨fun _ _ F => gG F rfl rfl rfl rfl (arm_move (.inl rfl) (F.k 12 (Value.bool true))).b, ?_⟩
      refine ⟨fun _ _ F => gR rfl rfl (arm_pick rfl (F.f 22 rfl) (fun _ => (F.f 23 rfl)) (fun h => by cases h)).b, ?_⟩
      refine ⟨fun _ _ F => gR rfl rfl (arm_move (.inl rfl) (F.f 24 rfl)).b, ?_⟩
      refine ⟨fun _ _ F => gG F rfl rfl rfl rfl (arm_loadF rfl (F.k 1 (Value.pointer (some ⟨g1, 0, none⟩))) (V1.mono F.below)).b, ?_⟩
      refine ⟨fun _ _ F => gG F rfl rfl rfl rfl (arm_loadF rfl (F.k 3 (Value.pointer (some ⟨g3, 0, none⟩))) (V3.mono F.below)).b, ?_⟩
      refine ⟨fun _ _ F => gG F rfl rfl rfl rfl (arm_C2 rfl (enters Try.func37 rfl rfl) (F.f 26 rfl) (F.f 27 rfl) (fun va vb w h1 h2 => q_fAdd va vb (Fq.mk false 1 3) (Fq.mk false 1 6) w h1 h2 (ok_of (by decide) (by decide) (by decide)) (ok_of (by decide) (by decide) (by decide))) (fun _ _ h => by rw [eadd]; exact ofQ h)).b, ?_⟩
      refine ⟨fun _ _ F => gG F rfl rfl rfl rfl (arm_loadF rfl (F.k 5 (Value.pointer (some ⟨g5, 0, none⟩))) (V5.mono F.below)).b, ?_⟩
      refine ⟨fun _ _ F => gG F rfl rfl rfl rfl (arm_C2 rfl (enters Try.func16 rfl rfl) (F.f 28 rfl) (F.f 29 rfl) (fun va vb w h1 h2 => q_Same va vb (Fq.mk false 1 2) (Fq.mk false 1 2) w h1 h2 (ok_of (by decide) (by decide) (by decide)) (ok_of (by decide) (by decide) (by decide))) (fun _ _ h => by have h' : RetV _ _ _ _ := h; rw [Fq.same_refl (Fq.mk false 1 2)] at h'; exact ofV h')).b, ?_⟩
      refine ⟨fun _ _ F => gR rfl rfl (arm_pick rfl (F.f 25 rfl) (fun _ => (F.f 30 rfl)) (fun h => by cases h)).b, ?_⟩
      refine ⟨fun _ _ F => gR rfl rfl (arm_move (.inl rfl) (F.f 31 rfl)).b, ?_⟩
      refine ⟨fun _ _ F => gG F rfl rfl rfl rfl (arm_loadF rfl (F.k 5 (Value.pointer (some ⟨g5, 0, none⟩))) (V5.mono F.below)).b, ?_⟩
      refine ⟨fun _ _ F => gG F rfl rfl rfl rfl (arm_C1 rfl (enters Try.func39 rfl rfl) (F.f 33 rfl) (fun va w h1 => q_fNeg va (Fq.mk false 1 2) w h1 (ok_of (by decide) (by decide) (by decide))) (fun _ _ h => by rw [eneg]; exact ofQ h)).b, ?_⟩
      refine ⟨fun _ _ F => gG F rfl rfl rfl rfl (arm_C1 rfl (enters Try.func17 rfl rfl) (F.f 34 rfl) (fun va w h1 => q_fFormat va (Fq.mk true 1 2) w h1 (ok_of (by decide) (by decide) (by decide))) (fun _ _ h => by rw [efmt]; exact ofV h)).b, ?_⟩
      refine ⟨fun _ _ F => gG F rfl rfl rfl rfl (arm_bin rfl (F.f 35 rfl) Is.const (fun _ => rfl) (fun w => run_eqS _ w)).b, ?_⟩
      refine ⟨fun _ _ F => gR rfl rfl (arm_pick rfl (F.f 32 rfl) (fun _ => (F.f 36 rfl)) (fun h => by cases h)).b, ?_⟩
      refine ⟨fun _ _ F => gR rfl rfl (arm_move (.inr rfl) (F.f 37 rfl)).b, ?_⟩
      exact trivial
    intro E' hE gp wp bp G Gs
    obtain rfl : E' = [] := by simpa [subs] using hE
    have e_38 : gp 38 = Value.bool true := G 38 0 _ (by simp) rfl
    clear G Gs hE
    simp only [awakeT6]
    simp only [qA, setD, qZ, qS, e_38]
    refine wpAny_done (by kernel_rfl) ?_ _
    go_wp2_with fail
    go_meet
    case rel => exact ⟨rfl, (V1.mono bp), (V3.mono bp), (V5.mono bp), (V7.mono bp), (V9.mono bp), (hb1.trans (bp.mono hb1.size))⟩
  case rest =>
  clear V1 V3 V5 V7 V9 hb1
  obtain ⟨rfl, V1, V3, V5, V7, V9, hb1⟩ := hcut
  go_wp2
  go_ret
  exact ⟨rfl, hb1⟩
end Go.Proofs.Ytldnimohnbjfaaa
namespace Go.Proofs.Ytldnimohnbjfaaa
set_option linter.unusedSimpArgs false
set_option linter.unusedVariables false
set_option maxRecDepth 100000
open Go.RowKit
def q_fitTT0 (w : World) (s : Bool) (L : Nat) (p : Nat) (N : Nat) (q : Nat) : List (Nat × Tmp × Sp) :=
   [(0, 3, .val (Value.pointer (some ⟨w.heap.size, 1, none⟩))),
    (1, 4, .val (Value.pointer (some ⟨w.heap.size, 1, none⟩))),
    (2, 5, .sl L),
    (3, 6, .val (Value.int IntKind.i64 (L : Int))),
    (4, 7, .val (Value.bool true)),
    (5, 8, .val (Value.bool true)),
    (6, 9, .val (Value.pointer (some ⟨w.heap.size, 2, none⟩))),
    (7, 10, .val (Value.pointer (some ⟨w.heap.size, 2, none⟩))),
    (8, 11, .sl N),
    (9, 12, .val (Value.int IntKind.i64 (N : Int))),
    (10, 13, .val (Value.bool true)),
    (11, 14, .val (Value.bool true)),
    (12, 15, .val (Value.bool true)),
    (13, 16, .frR s L p N q),
    (14, 17, .val (Value.bool true)),
    (15, 18, .val (Value.bool true)),
    (16, 2, .val (Value.bool true))]
set_option maxHeartbeats 4000000 in
theorem q_fitT (va : Value) (s : Bool) (L p N q : Nat) (w : World) (ha : IsFR w va s L p N q) (h : FitP s L p N q) :
    Calls Try.prog 18 #[va] w fun e w' => RetV w (.bool true) e w' := by
  obtain ⟨h1, h2, h3, h4, h5⟩ := h
  have HL : Hid (true = decide ((L : Int) ≤ 12)) := Lib.hid (by symm; apply decide_eq_true; omega)
  have HN : Hid (true = decide ((N : Int) ≤ 12)) := Lib.hid (by symm; apply decide_eq_true; omega)
  have bp : nl p ≤ 1000000 := by omega
  have bq : nl q ≤ 1000000 := by omega
  have H3 := Lib.hid h3
  have H4 := Lib.hid h4
  clear h1 h2 h3 h4
  obtain ⟨a0, c0, b0, d0, rfl, m0, k0⟩ := boxR ha
  clear ha
  go_enter Try.func18, Try.ntmps18
  go_upto_region 0 with (fail)
  go_cut [1, 2] (fun s_1 s_2 wx => s_1 = Value.pointer (some ⟨w.heap.size, 0, none⟩) ∧ s_2 = Value.bool false ∧ VarFR wx w.heap.size s L p N q ∧ Below w.heap.size w wx)
  case first =>
    go_wp2_with fail
    go_meet
    case rel => exact ⟨rfl, rfl, k0, m0⟩
  case rest =>
  clear m0 k0
  obtain ⟨rfl, rfl, V0, hb1⟩ := hcut
  go_upto_region 1 with (fail)
  go_cut [2] (fun s_2 wx => s_2 = Value.bool true ∧ VarFR wx w.heap.size s L p N q ∧ Below w.heap.size w wx)
  case first =>
    refine tF Try.f18 1 (q_fitTT0 w s L p N q) [] 17 0 ?_ ?_
    · refine ⟨fun _ _ F => gR rfl rfl (arm_fieldF rfl (F.k 1 (Value.pointer (some ⟨w.heap.size, 0, none⟩))) (run_field1 _)).b, ?_⟩
      refine ⟨fun _ _ F => gR rfl rfl (arm_fieldN rfl (F.f 0 rfl)).b, ?_⟩
      refine ⟨fun _ _ F => gR rfl rfl (arm_loadW1 rfl (F.f 1 rfl) (V0.mono F.below)).b, ?_⟩
      refine ⟨fun _ _ F => gR rfl rfl (arm_lenW rfl (F.f 2 rfl)).b, ?_⟩
      refine ⟨fun _ _ F => gR rfl rfl (arm_bin rfl (F.f 3 rfl) Is.const (fun _ => rfl) (fun w => by rw [HL.out]; rfl)).b, ?_⟩
      refine ⟨fun _ _ F => gR rfl rfl (arm_move (.inl rfl) (F.f 4 rfl)).b, ?_⟩
      refine ⟨fun _ _ F => gG F rfl rfl rfl rfl (arm_fieldF rfl (F.k 1 (Value.pointer (some ⟨w.heap.size, 0, none⟩))) (run_field2 _)).b, ?_⟩
      refine ⟨fun _ _ F => gG F rfl rfl rfl rfl (arm_fieldN rfl (F.f 6 rfl)).b, ?_⟩
      refine ⟨fun _ _ F => gG F rfl rfl rfl rfl (arm_loadW2 rfl (F.f 7 rfl) (V0.mono F.below)).b, ?_⟩
      refine ⟨fun _ _ F => gG F rfl rfl rfl rfl (arm_lenW rfl (F.f 8 rfl)).b, ?_⟩
      refine ⟨fun _ _ F => gG F rfl rfl rfl rfl (arm_bin rfl (F.f 9 rfl) Is.const (fun _ => rfl) (fun w => by rw [HN.out]; rfl)).b, ?_⟩
      refine ⟨fun _ _ F => gR rfl rfl (arm_pick rfl (F.f 5 rfl) (fun _ => (F.f 10 rfl)) (fun h => by cases h)).b, ?_⟩
      refine ⟨fun _ _ F => gR rfl rfl (arm_move (.inl rfl) (F.f 11 rfl)).b, ?_⟩
      refine ⟨fun _ _ F => gG F rfl rfl rfl rfl (arm_loadFR rfl (F.k 1 (Value.pointer (some ⟨w.heap.size, 0, none⟩))) (V0.mono F.below)).b, ?_⟩
      refine ⟨fun _ _ F => gG F rfl rfl rfl rfl (arm_C1 rfl (enters Try.func13 rfl rfl) (F.f 13 rfl) (fun va w h1 => q_rValid va (Fq.mk s p q) w (IsFR.isQ h1 H3.out H4.out) bp bq) (fun _ _ h => by have h' : RetV _ _ _ _ := h; rw [h5] at h'; exact ofV h')).b, ?_⟩
      refine ⟨fun _ _ F => gR rfl rfl (arm_pick rfl (F.f 12 rfl) (fun _ => (F.f 14 rfl)) (fun h => by cases h)).b, ?_⟩
      refine ⟨fun _ _ F => gR rfl rfl (arm_move (.inr rfl) (F.f 15 rfl)).b, ?_⟩
      exact trivial
    intro E' hE gp wp bp G Gs
    obtain rfl : E' = [] := by simpa [subs] using hE
    have e_16 : gp 16 = Value.bool true := G 16 2 _ (by simp) rfl
    clear G Gs hE
    simp only [q_fitTT0]
    simp only [qA, setD, qZ, qS, e_16]
    refine wpAny_done (by kernel_rfl) ?_ _
    go_wp2_with fail
    go_meet
    case rel => exact ⟨rfl, (V0.mono bp), (hb1.trans (bp.mono hb1.size))⟩
  case rest =>
  clear V0 hb1
  obtain ⟨rfl, V0, hb1⟩ := hcut
  go_wp2
  go_ret
  exact ⟨rfl, hb1⟩
def q_fitFT0 (w : World) (s : Bool) (L : Nat) (p : Nat) (N : Nat) (q : Nat) : List (Nat × Tmp × Sp) :=
   [(0, 3, .val (Value.pointer (some ⟨w.heap.size, 1, none⟩))),
    (1, 4, .val (Value.pointer (some ⟨w.heap.size, 1, none⟩))),
    (2, 5, .sl L),
    (3, 6, .val (Value.int IntKind.i64 (L : Int))),
    (4, 7, .val (Value.bool true)),
    (5, 8, .val (Value.bool true)),
    (6, 9, .val (Value.pointer (some ⟨w.heap.size, 2, none⟩))),
    (7, 10, .val (Value.pointer (some ⟨w.heap.size, 2, none⟩))),
    (8, 11, .sl N),
    (9, 12, .val (Value.int IntKind.i64 (N : Int))),
    (10, 13, .val (Value.bool true)),
    (11, 14, .val (Value.bool true)),
    (12, 15, .val (Value.bool true)),
    (13, 16, .frR s L p N q),
    (14, 17, .val (Value.bool false)),
    (15, 18, .val (Value.bool false)),
    (16, 2, .val (Value.bool false))]
def q_fitFT1 (w : World) (s : Bool) (L : Nat) (p : Nat) (N : Nat) (q : Nat) : List (Nat × Tmp × Sp) :=
   [(0, 3, .val (Value.pointer (some ⟨w.heap.size, 1, none⟩))),
    (1, 4, .val (Value.pointer (some ⟨w.heap.size, 1, none⟩))),
    (2, 5, .sl L),
    (3, 6, .val (Value.int IntKind.i64 (L : Int))),
    (4, 7, .val (Value.bool true)),
    (5, 8, .val (Value.bool true)),
    (6, 9, .val (Value.pointer (some ⟨w.heap.size, 2, none⟩))),
    (7, 10, .val (Value.pointer (some ⟨w.heap.size, 2, none⟩))),
    (8, 11, .sl N),
    (9, 12, .val (Value.int IntKind.i64 (N : Int))),
    (10, 13, .val (Value.bool true)),
    (11, 14, .val (Value.bool true)),
    (12, 15, .val (Value.bool true)),
    (13, 16, .frR s L p N q),
    (14, 17, .val (Value.bool false)),
    (15, 18, .val (Value.bool false)),
    (16, 2, .val (Value.bool false))]
def q_fitFT2 (w : World) (L : Nat) (N : Nat) : List (Nat × Tmp × Sp) :=
   [(0, 3, .val (Value.pointer (some ⟨w.heap.size, 1, none⟩))),
    (1, 4, .val (Value.pointer (some ⟨w.heap.size, 1, none⟩))),
    (2, 5, .sl L),
    (3, 6, .val (Value.int IntKind.i64 (L : Int))),
    (4, 7, .val (Value.bool true)),
    (5, 8, .val (Value.bool true)),
    (6, 9, .val (Value.pointer (some ⟨w.heap.size, 2, none⟩))),
    (7, 10, .val (Value.pointer (some ⟨w.heap.size, 2, none⟩))),
    (8, 11, .sl N),
    (9, 12, .val (Value.int IntKind.i64 (N : Int))),
    (10, 13, .val (Value.bool false)),
    (11, 14, .val (Value.bool false)),
    (12, 15, .val (Value.bool false)),
    (13, 16, .val undef),
    (14, 17, .val undef),
    (15, 18, .val (Value.bool false)),
    (16, 2, .val (Value.bool false))]
def q_fitFT3 (w : World) (L : Nat) : List (Nat × Tmp × Sp) :=
   [(0, 3, .val (Value.pointer (some ⟨w.heap.size, 1, none⟩))),
    (1, 4, .val (Value.pointer (some ⟨w.heap.size, 1, none⟩))),
    (2, 5, .sl L),
    (3, 6, .val (Value.int IntKind.i64 (L : Int))),
    (4, 7, .val (Value.bool false)),
    (5, 8, .val (Value.bool false)),
    (6, 9, .val undef),
    (7, 10, .val undef),
    (8, 11, .val undef),
    (9, 12, .val undef),
    (10, 13, .val undef),
    (11, 14, .val (Value.bool false)),
    (12, 15, .val (Value.bool false)),
    (13, 16, .val undef),
    (14, 17, .val undef),
    (15, 18, .val (Value.bool false)),
    (16, 2, .val (Value.bool false))]
set_option maxHeartbeats 4000000 in
theorem q_fitF (va : Value) (s : Bool) (L p N q : Nat) (w : World) (ha : IsFR w va s L p N q) (h : ¬ FitP s L p N q) :
    Calls Try.prog 18 #[va] w fun e w' => RetV w (.bool false) e w' := by
  by_cases h1 : L ≤ 12
  · have HL : Hid (true = decide ((L : Int) ≤ 12)) := Lib.hid (by symm; apply decide_eq_true; omega)
    by_cases h2 : N ≤ 12
    · have HN : Hid (true = decide ((N : Int) ≤ 12)) := Lib.hid (by symm; apply decide_eq_true; omega)
      by_cases h3 : nl p = L ∧ nl q = N
      · obtain ⟨h3, h4⟩ := h3
        have h5 : (Fq.mk s p q).valid = false := Bool.eq_false_iff.2 (fun h6 => h ⟨h1, h2, h3, h4, h6⟩)
        have bp : nl p ≤ 1000000 := by omega
        have bq : nl q ≤ 1000000 := by omega
        have H3 := Lib.hid h3
        have H4 := Lib.hid h4
        clear h h1 h2 h3 h4
        obtain ⟨a0, c0, b0, d0, rfl, m0, k0⟩ := boxR ha
        clear ha
        go_enter Try.func18, Try.ntmps18
        go_upto_region 0 with (fail)
        go_cut [1, 2] (fun s_1 s_2 wx => s_1 = Value.pointer (some ⟨w.heap.size, 0, none⟩) ∧ s_2 = Value.bool false ∧ VarFR wx w.heap.size s L p N q ∧ Below w.heap.size w wx)
        case first =>
          go_wp2_with fail
          go_meet
          case rel => exact ⟨rfl, rfl, k0, m0⟩
        case rest =>
        clear m0 k0
        obtain ⟨rfl, rfl, V0, hb1⟩ := hcut
        go_upto_region 1 with (fail)
        go_cut [2] (fun s_2 wx => s_2 = Value.bool false ∧ VarFR wx w.heap.size s L p N q ∧ Below w.heap.size w wx)
        case first =>
          refine tF Try.f18 1 (q_fitFT0 w s L p N q) [] 17 0 ?_ ?_
          · refine ⟨fun _ _ F => gR rfl rfl (arm_fieldF rfl (F.k 1 (Value.pointer (some ⟨w.heap.size, 0, none⟩))) (run_field1 _)).b, ?_⟩
            refine ⟨fun _ _ F => gR rfl rfl (arm_fieldN rfl (F.f 0 rfl)).b, ?_⟩
            refine ⟨fun _ _ F => gR rfl rfl (arm_loadW1 rfl (F.f 1 rfl) (V0.mono F.below)).b, ?_⟩
            refine ⟨fun _ _ F => gR rfl rfl (arm_lenW rfl (F.f 2 rfl)).b, ?_⟩
            refine ⟨fun _ _ F => gR rfl rfl (arm_bin rfl (F.f 3 rfl) Is.const (fun _ => rfl) (fun w => by rw [HL.out]; rfl)).b, ?_⟩
            refine ⟨fun _ _ F => gR rfl rfl (arm_move (.inl rfl) (F.f 4 rfl)).b, ?_⟩
            refine ⟨fun _ _ F => gG F rfl rfl rfl rfl (arm_fieldF rfl (F.k 1 (Value.pointer (some ⟨w.heap.size, 0, none⟩))) (run_field2 _)).b, ?_⟩
            refine ⟨fun _ _ F => gG F rfl rfl rfl rfl (arm_fieldN rfl (F.f 6 rfl)).b, ?_⟩
            refine ⟨fun _ _ F => gG F rfl rfl rfl rfl (arm_loadW2 rfl (F.f 7 rfl) (V0.mono F.below)).b, ?_⟩
            refine ⟨fun _ _ F => gG F rfl rfl rfl rfl (arm_lenW rfl (F.f 8 rfl)).b, ?_⟩
            refine ⟨fun _ _ F => gG F rfl rfl rfl rfl (arm_bin rfl (F.f 9 rfl) Is.const (fun _ => rfl) (fun w => by rw [HN.out]; rfl)).b, ?_⟩
            refine ⟨fun _ _ F => gR rfl rfl (arm_pick rfl (F.f 5 rfl) (fun _ => (F.f 10 rfl)) (fun h => by cases h)).b, ?_⟩
            refine ⟨fun _ _ F => gR rfl rfl (arm_move (.inl rfl) (F.f 11 rfl)).b, ?_⟩
            refine ⟨fun _ _ F => gG F rfl rfl rfl rfl (arm_loadFR rfl (F.k 1 (Value.pointer (some ⟨w.heap.size, 0, none⟩))) (V0.mono F.below)).b, ?_⟩
            refine ⟨fun _ _ F => gG F rfl rfl rfl rfl (arm_C1 rfl (enters Try.func13 rfl rfl) (F.f 13 rfl) (fun va w h1 => q_rValid va (Fq.mk s p q) w (IsFR.isQ h1 H3.out H4.out) bp bq) (fun _ _ h => by have h' : RetV _ _ _ _ := h; rw [h5] at h'; exact ofV h')).b, ?_⟩
            refine ⟨fun _ _ F => gR rfl rfl (arm_pick rfl (F.f 12 rfl) (fun _ => (F.f 14 rfl)) (fun h => by cases h)).b, ?_⟩
            refine ⟨fun _ _ F => gR rfl rfl (arm_move (.inr rfl) (F.f 15 rfl)).b, ?_⟩
            exact trivial
          intro E' hE gp wp bp G Gs
          obtain rfl : E' = [] := by simpa [subs] using hE
          have e_16 : gp 16 = Value.bool false := G 16 2 _ (by simp) rfl
          clear G Gs hE
          simp only [q_fitFT0]
          simp only [qA, setD, qZ, qS, e_16]
          refine wpAny_done (by kernel_rfl) ?_ _
          go_wp2_with fail
          go_meet
          case rel => exact ⟨rfl, (V0.mono bp), (hb1.trans (bp.mono hb1.size))⟩
        case rest =>
        clear V0 hb1
        obtain ⟨rfl, V0, hb1⟩ := hcut
        go_wp2
        go_ret
        exact ⟨rfl, hb1⟩
      · have hl : L ≤ 1000000 := by omega
        have hn : N ≤ 1000000 := by omega
        have H3 := Lib.hid h3
        clear h h1 h2 h3
        obtain ⟨a0, c0, b0, d0, rfl, m0, k0⟩ := boxR ha
        clear ha
        go_enter Try.func18, Try.ntmps18
        go_upto_region 0 with (fail)
        go_cut [1, 2] (fun s_1 s_2 wx => s_1 = Value.pointer (some ⟨w.heap.size, 0, none⟩) ∧ s_2 = Value.bool false ∧ VarFR wx w.heap.size s L p N q ∧ Below w.heap.size w wx)
        case first =>
          go_wp2_with fail
          go_meet
          case rel => exact ⟨rfl, rfl, k0, m0⟩
        case rest =>
        clear m0 k0
        obtain ⟨rfl, rfl, V0, hb1⟩ := hcut
        go_upto_region 1 with (fail)
        go_cut [2] (fun s_2 wx => s_2 = Value.bool false ∧ VarFR wx w.heap.size s L p N q ∧ Below w.heap.size w wx)
        case first =>
          refine tF Try.f18 1 (q_fitFT1 w s L p N q) [] 17 0 ?_ ?_
          · refine ⟨fun _ _ F => gR rfl rfl (arm_fieldF rfl (F.k 1 (Value.pointer (some ⟨w.heap.size, 0, none⟩))) (run_field1 _)).b, ?_⟩
            refine ⟨fun _ _ F => gR rfl rfl (arm_fieldN rfl (F.f 0 rfl)).b, ?_⟩
            refine ⟨fun _ _ F => gR rfl rfl (arm_loadW1 rfl (F.f 1 rfl) (V0.mono F.below)).b, ?_⟩
            refine ⟨fun _ _ F => gR rfl rfl (arm_lenW rfl (F.f 2 rfl)).b, ?_⟩
            refine ⟨fun _ _ F => gR rfl rfl (arm_bin rfl (F.f 3 rfl) Is.const (fun _ => rfl) (fun w => by rw [HL.out]; rfl)).b, ?_⟩
            refine ⟨fun _ _ F => gR rfl rfl (arm_move (.inl rfl) (F.f 4 rfl)).b, ?_⟩
            refine ⟨fun _ _ F => gG F rfl rfl rfl rfl (arm_fieldF rfl (F.k 1 (Value.pointer (some ⟨w.heap.size, 0, none⟩))) (run_field2 _)).b, ?_⟩
            refine ⟨fun _ _ F => gG F rfl rfl rfl rfl (arm_fieldN rfl (F.f 6 rfl)).b, ?_⟩
            refine ⟨fun _ _ F => gG F rfl rfl rfl rfl (arm_loadW2 rfl (F.f 7 rfl) (V0.mono F.below)).b, ?_⟩
            refine ⟨fun _ _ F => gG F rfl rfl rfl rfl (arm_lenW rfl (F.f 8 rfl)).b, ?_⟩
            refine ⟨fun _ _ F => gG F rfl rfl rfl rfl (arm_bin rfl (F.f 9 rfl) Is.const (fun _ => rfl) (fun w => by rw [HN.out]; rfl)).b, ?_⟩
            refine ⟨fun _ _ F => gR rfl rfl (arm_pick rfl (F.f 5 rfl) (fun _ => (F.f 10 rfl)) (fun h => by cases h)).b, ?_⟩
            refine ⟨fun _ _ F => gR rfl rfl (arm_move (.inl rfl) (F.f 11 rfl)).b, ?_⟩
            refine ⟨fun _ _ F => gG F rfl rfl rfl rfl (arm_loadFR rfl (F.k 1 (Value.pointer (some ⟨w.heap.size, 0, none⟩))) (V0.mono F.below)).b, ?_⟩
            refine ⟨fun _ _ F => gG F rfl rfl rfl rfl (arm_C1 rfl (enters Try.func13 rfl rfl) (F.f 13 rfl) (fun va w h1 => q_rValidR va s L p N q w h1 hl hn H3.out) (fun _ _ h => ofV h)).b, ?_⟩
            refine ⟨fun _ _ F => gR rfl rfl (arm_pick rfl (F.f 12 rfl) (fun _ => (F.f 14 rfl)) (fun h => by cases h)).b, ?_⟩
            refine ⟨fun _ _ F => gR rfl rfl (arm_move (.inr rfl) (F.f 15 rfl)).b, ?_⟩
            exact trivial
          intro E' hE gp wp bp G Gs
          obtain rfl : E' = [] := by simpa [subs] using hE
          have e_16 : gp 16 = Value.bool false := G 16 2 _ (by simp) rfl
          clear G Gs hE
          simp only [q_fitFT1]
          simp only [qA, setD, qZ, qS, e_16]
          refine wpAny_done (by kernel_rfl) ?_ _
          go_wp2_with fail
          go_meet
          case rel => exact ⟨rfl, (V0.mono bp), (hb1.trans (bp.mono hb1.size))⟩
        case rest =>
        clear V0 hb1
        obtain ⟨rfl, V0, hb1⟩ := hcut
        go_wp2
        go_ret
        exact ⟨rfl, hb1⟩
    · have HN : Hid (false = decide ((N : Int) ≤ 12)) := Lib.hid (by symm; apply decide_eq_false; omega)
      clear h h1 h2
      obtain ⟨a0, c0, b0, d0, rfl, m0, k0⟩ := boxR ha
      clear ha
      go_enter Try.func18, Try.ntmps18
      go_upto_region 0 with (fail)
      go_cut [1, 2] (fun s_1 s_2 wx => s_1 = Value.pointer (some ⟨w.heap.size, 0, none⟩) ∧ s_2 = Value.bool false ∧ VarFR wx w.heap.size s L p N q ∧ Below w.heap.size w wx)
      case first =>
        go_wp2_with fail
        go_meet
        case rel => exact ⟨rfl, rfl, k0, m0⟩
      case rest =>
      clear m0 k0
      obtain ⟨rfl, rfl, V0, hb1⟩ := hcut
      go_upto_region 1 with (fail)
      go_cut [2] (fun s_2 wx => s_2 = Value.bool false ∧ VarFR wx w.heap.size s L p N q ∧ Below w.heap.size w wx)
      case first =>
        refine tF Try.f18 1 (q_fitFT2 w L N) [] 17 0 ?_ ?_
        · refine ⟨fun _ _ F => gR rfl rfl (arm_fieldF rfl (F.k 1 (Value.pointer (some ⟨w.heap.size, 0, none⟩))) (run_field1 _)).b, ?_⟩
          refine ⟨fun _ _ F => gR rfl rfl (arm_fieldN rfl (F.f 0 rfl)).b, ?_⟩
          refine ⟨fun _ _ F => gR rfl rfl (arm_loadW1 rfl (F.f 1 rfl) (V0.mono F.below)).b, ?_⟩
          refine ⟨fun _ _ F => gR rfl rfl (arm_lenW rfl (F.f 2 rfl)).b, ?_⟩
          refine ⟨fun _ _ F => gR rfl rfl (arm_bin rfl (F.f 3 rfl) Is.const (fun _ => rfl) (fun w => by rw [HL.out]; rfl)).b, ?_⟩
          refine ⟨fun _ _ F => gR rfl rfl (arm_move (.inl rfl) (F.f 4 rfl)).b, ?_⟩
          refine ⟨fun _ _ F => gG F rfl rfl rfl rfl (arm_fieldF rfl (F.k 1 (Value.pointer (some ⟨w.heap.size, 0, none⟩))) (run_field2 _)).b, ?_⟩
          refine ⟨fun _ _ F => gG F rfl rfl rfl rfl (arm_fieldN rfl (F.f 6 rfl)).b, ?_⟩
          refine ⟨fun _ _ F => gG F rfl rfl rfl rfl (arm_loadW2 rfl (F.f 7 rfl) (V0.mono F.below)).b, ?_⟩
          refine ⟨fun _ _ F => gG F rfl rfl rfl rfl (arm_lenW rfl (F.f 8 rfl)).b, ?_⟩
          refine ⟨fun _ _ F => gG F rfl rfl rfl rfl (arm_bin rfl (F.f 9 rfl) Is.const (fun _ => rfl) (fun w => by rw [HN.out]; rfl)).b, ?_⟩
          refine ⟨fun _ _ F => gR rfl rfl (arm_pick rfl (F.f 5 rfl) (fun _ => (F.f 10 rfl)) (fun h => by cases h)).b, ?_⟩
          refine ⟨fun _ _ F => gR rfl rfl (arm_move (.inl rfl) (F.f 11 rfl)).b, ?_⟩
          refine ⟨fun _ _ F => gS F rfl rfl rfl rfl rfl rfl, ?_⟩
          refine ⟨fun _ _ F => gS F rfl rfl rfl rfl rfl rfl, ?_⟩
          refine ⟨fun _ _ F => gR rfl rfl (arm_pick rfl (F.f 12 rfl) (fun h => by cases h) (fun _ => Is.const)).b, ?_⟩
          refine ⟨fun _ _ F => gR rfl rfl (arm_move (.inr rfl) (F.f 15 rfl)).b, ?_⟩
          exact trivial
        intro E' hE gp wp bp G Gs
        obtain rfl : E' = [] := by simpa [subs] using hE
        have e_16 : gp 16 = Value.bool false := G 16 2 _ (by simp) rfl
        clear G Gs hE
        simp only [q_fitFT2]
        simp only [qA, setD, qZ, qS, e_16]
        refine wpAny_done (by kernel_rfl) ?_ _
        go_wp2_with fail
        go_meet
        case rel => exact ⟨rfl, (V0.mono bp), (hb1.trans (bp.mono hb1.size))⟩
      case rest =>
      clear V0 hb1
      obtain ⟨rfl, V0, hb1⟩ := hcut
      go_wp2
      go_ret
      exact ⟨rfl, hb1⟩
  · have HL : Hid (false = decide ((L : Int) ≤ 12)) := Lib.hid (by symm; apply decide_eq_false; omega)
    clear h h1
    obtain ⟨a0, c0, b0, d0, rfl, m0, k0⟩ := boxR ha
    clear ha
    go_enter Try.func18, Try.ntmps18
    go_upto_region 0 with (fail)
    go_cut [1, 2] (fun s_1 s_2 wx => s_1 = Value.pointer (some ⟨w.heap.size, 0, none⟩) ∧ s_2 = Value.bool false ∧ VarFR wx w.heap.size s L p N q ∧ Below w.heap.size w wx)
    case first =>
      go_wp2_with fail
      go_meet
      case rel => exact ⟨rfl, rfl, k0, m0⟩
    case rest =>
    clear m0 k0
    obtain ⟨rfl, rfl, V0, hb1⟩ := hcut
    go_upto_region 1 with (fail)
    go_cut [2] (fun s_2 wx => s_2 = Value.bool false ∧ VarFR wx w.heap.size s L p N q ∧ Below w.heap.size w wx)
    case first =>
      refine tF Try.f18 1 (q_fitFT3 w L) [] 17 0 ?_ ?_
      · refine ⟨fun _ _ F => gR rfl rfl (arm_fieldF rfl (F.k 1 (Value.pointer (some ⟨w.heap.size, 0, none⟩))) (run_field1 _)).b, ?_⟩
        refine ⟨fun _ _ F => gR rfl rfl (arm_fieldN rfl (F.f 0 rfl)).b, ?_⟩
        refine ⟨fun _ _ F => gR rfl rfl (arm_loadW1 rfl (F.f 1 rfl) (V0.mono F.below)).b, ?_⟩
        refine ⟨fun _ _ F => gR rfl rfl (arm_lenW rfl (F.f 2 rfl)).b, ?_⟩
        refine ⟨fun _ _ F => gR rfl rfl (arm_bin rfl (F.f 3 rfl) Is.const (fun _ => rfl) (fun w => by rw [HL.out]; rfl)).b, ?_⟩
        refine ⟨fun _ _ F => gR rfl rfl (arm_move (.inl rfl) (F.f 4 rfl)).b, ?_⟩
        refine ⟨fun _ _ F => gS F rfl rfl rfl rfl rfl rfl, ?_⟩
        refine ⟨fun _ _ F => gS F rfl rfl rfl rfl rfl rfl, ?_⟩
        refine ⟨fun _ _ F => gS F rfl rfl rfl rfl rfl rfl, ?_⟩
        refine ⟨fun _ _ F => gS F rfl rfl rfl rfl rfl rfl, ?_⟩
        refine ⟨fun _ _ F => gS F rfl rfl rfl rfl rfl rfl, ?_⟩
        refine ⟨fun _ _ F => gR rfl rfl (arm_pick rfl (F.f 5 rfl) (fun h => by cases h) (fun _ => Is.const)).b, ?_⟩
        refine ⟨fun _ _ F => gR rfl rfl (arm_move (.inl rfl) (F.f 11 rfl)).b, ?_⟩
        refine ⟨fun _ _ F => gS F rfl rfl rfl rfl rfl rfl, ?_⟩
        refine ⟨fun _ _ F => gS F rfl rfl rfl rfl rfl rfl, ?_⟩
        refine ⟨fun _ _ F => gR rfl rfl (arm_pick rfl (F.f 12 rfl) (fun h => by cases h) (fun _ => Is.const)).b, ?_⟩
        refine ⟨fun _ _ F => gR rfl rfl (arm_move (.inr rfl) (F.f 15 rfl)).b, ?_⟩
        exact trivial
      intro E' hE gp wp bp G Gs
      obtain rfl : E' = [] := by simpa [subs] using hE
      have e_16 : gp 16 = Value.bool false := G 16 2 _ (by simp) rfl
      clear G Gs hE
      simp only [q_fitFT3]
      simp only [qA, setD, qZ, qS, e_16]
      refine wpAny_done (by kernel_rfl) ?_ _
      go_wp2_with fail
      go_meet
      case rel => exact ⟨rfl, (V0.mono bp), (hb1.trans (bp.mono hb1.size))⟩
    case rest =>
    clear V0 hb1
    obtain ⟨rfl, V0, hb1⟩ := hcut
    go_wp2
    go_ret
    exact ⟨rfl, hb1⟩
end Go.Proofs.Ytldnimohnbjfaaa
namespace Go.Proofs.Ytldnimohnbjfaaa
set_option linter.unusedSimpArgs false
set_option linter.unusedVariables false
set_option maxRecDepth 100000
open Go Go.Proofs
/-- The number that a fraction stands for. -/
def Fq.sg (s : Bool) (m : Nat) : Int := if s then -(m : Int) else m
def Fq.v (x : Fq) : Rat := mkRat (Fq.sg x.s x.p) x.q
theorem Fq.valid.n {x : Fq} (h : x.valid = true) : x.q ≠ 0 := (of_decide_eq_true h).1
theorem Fq.valid.s {x : Fq} (h : x.valid = true) : ¬(x.s = true ∧ x.p = 0) := (of_decide_eq_true h).2.1
theorem Fq.valid.g {x : Fq} (h : x.valid = true) : Nat.gcd x.p x.q = 1 := (of_decide_eq_true h).2.2
section
variable {a b c t : Fq} (ha : a.valid = true) (hb : b.valid = true) (hc : c.valid = true) (ht : t.valid = true)
include ha hb
include hc
end
section
variable {a b t : Fq} (ha : a.valid = true) (hb : b.valid = true) (ht : t.valid = true)
include ha
include hb
include ht
end
end Go.Proofs.Ytldnimohnbjfaaa
namespace Go.Proofs.Ytldnimohnbjfaaa
set_option linter.unusedSimpArgs false
set_option linter.unusedVariables false
set_option maxRecDepth 100000
open Go.RowKit
theorem run_neJ (t : TypeId) (n : Int) (w : World) : (binOp BinOp.neq t (.int .i64 n) (.int .i64 n)).run Try.prog w = .ok (.bool false) w := by
  have h : (binOp BinOp.neq t (.int .i64 n) (.int .i64 n)).run Try.prog w = .ok (.bool (n != n)) w := rfl
  rw [h]; simp
theorem q_fitQ (va : Value) (x : Fq) (w : World) (ha : IsQ w va x) (h : x.ok 12) (hv : x.valid = true) : Calls Try.prog 18 #[va] w fun e w' => RetV w (.bool true) e w' :=
  q_fitT va x.s (nl x.p) x.p (nl x.q) x.q w ha ⟨h.p, h.q, rfl, rfl, hv⟩
theorem FitP.split {w : World} {v : Value} {s : Bool} {L p N q : Nat} (h : FitP s L p N q) (ha : IsFR w v s L p N q) : ∃ x : Fq, IsQ w v x ∧ x.ok 12 ∧ x.valid = true :=
  ⟨⟨s, p, q⟩, ha.isQ h.2.2.1 h.2.2.2.1, h.ok, h.2.2.2.2⟩
end Go.Proofs.Ytldnimohnbjfaaa
