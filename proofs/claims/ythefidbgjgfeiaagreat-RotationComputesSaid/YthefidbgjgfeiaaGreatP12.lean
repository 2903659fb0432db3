/- Valid, of package fraction and of the reference. strings.Cut at a slash, strings.CutPrefix at a minus. Parse of package fraction. The plain law of fractions: what they stand for (rational numbers), and the laws of a field, of the order, of Lerp and of Floor. The plain law of vectors of fractions. The plain law of rotations, in rational numbers: quaternions up to a factor, and how they turn vectors. -/
import Derived.Test.YthefidbgjgfeiaaGreatP11
import Derived.Lib.Bytealg
import Derived.Lib.Strings
namespace Go.Proofs.YthefidbgjgfeiaaGreat
set_option linter.unusedSimpArgs false
set_option linter.unusedVariables false
set_option maxRecDepth 100000
open Go.RowKit
/-- A fraction of rows: leading zeros allowed. -/
def IsFR (w : World) (v : Value) (s : Bool) (L p N q : Nat) : Prop := ∃ a c b d, v = .agg #[.bool s, .slice a L c, .slice b N d] ∧ IsR w (.agg #[.slice a L c]) L p ∧ IsR w (.agg #[.slice b N d]) N q
theorem IsFR.mono {w w' : World} {v : Value} {s : Bool} {L p N q : Nat} (h : IsFR w v s L p N q) (hb : Below w.heap.size w w') : IsFR w' v s L p N q := by
  obtain ⟨a, c, b, d, rfl, h1, h2⟩ := h; exact ⟨a, c, b, d, rfl, h1.mono hb, h2.mono hb⟩
def VarFR (w : World) (g : Nat) (s : Bool) (L p N q : Nat) : Prop := ∃ a c b d, VarFB w g s a L c b N d ∧ IsR w (.agg #[.slice a L c]) L p ∧ IsR w (.agg #[.slice b N d]) N q
theorem VarFR.lt {w : World} {g L p N q : Nat} {s : Bool} (h : VarFR w g s L p N q) : g < w.heap.size := by obtain ⟨_, _, _, _, h, _⟩ := h; exact h.lt
theorem VarFR.mono {w w' : World} {g L p N q : Nat} {s : Bool} (h : VarFR w g s L p N q) (hb : Below w.heap.size w w') : VarFR w' g s L p N q := by
  obtain ⟨a, c, b, d, h0, h1, h2⟩ := h; exact ⟨a, c, b, d, h0.mono hb h0.lt, h1.mono hb, h2.mono hb⟩
theorem VarFR.upd {w w' : World} {g g' L p N q : Nat} {s : Bool} (h : VarFR w g' s L p N q) (o : Own w g) (u : Upd w g w') (hn : g' ≠ g) : VarFR w' g' s L p N q := by
  obtain ⟨x, cx, y, cy, h0, h1, h2⟩ := h; exact ⟨x, cx, y, cy, h0.upd o u hn, h1.upd o u, h2.upd o u⟩
section
variable {Q : Exit → Act → World → Prop} {o : Oper} {a : Act} {w : World} {x y : Operand} {g L p N q m : Nat} {s : Bool} {tt : Array TypeId}
/-- A slice of one number. -/
def Sp.ones (m : Nat) : Sp := ⟨fun w v => ∃ g, v = .slice (some ⟨g, 0, none⟩) 1 1 ∧ VarI w g m, fun _ _ _ h hb => by obtain ⟨g, rfl, h⟩ := h; exact ⟨g, rfl, h.mono hb⟩⟩
theorem run_buildSlice1 (s : Option Addr) (L c : Nat) (w : World) : (Instr.buildSlice 112 1 #[(0, .agg #[.slice s L c])]).run Tryz.prog w = .ok (.slice (some ⟨w.heap.size, 0, none⟩) 1 1) (w.alloc (.cells #[.slice s L c] 29)) := by
  go_simp
theorem arm_ones (ho : o.op = .buildSlice 112 1 #[(0, x)]) (hx : Is a w x (.nat m)) : Arm Tryz.prog Q o a w (.ones m) := by
  obtain ⟨ax, cx, ex⟩ := IsN.shape hx
  have hx' : IsN w (a.eval x) m := hx
  rw [ex] at hx'
  intro K hK
  unfold Oper.wp execOp
  rw [ho]
  simp only [List.map_toArray, List.map_cons, List.map_nil, ex, Sem.run_bind, run_buildSlice1, Result.andThen, Sem.run_pure, Oper.upon_value]
  have hb := bel1 w (.cells #[.slice ax (nl m) cx] 29)
  exact hK _ _ ⟨_, rfl, ax, cx, VarB.made w ax (nl m) cx, hx'.mono hb⟩ hb
end
theorem c_one1 (va : Value) (m : Nat) (w : World) (h : (Sp.ones m).p w va) (hm : nl m ≤ 1000000000000) : Calls Tryz.prog 92 #[va] w fun e w' => RetV w (.bool (decide (m = 1))) e w' := by
  obtain ⟨g, rfl, v⟩ := h; exact c_one g m w v hm
/-- Which fractions are valid. -/
def Fq.valid (x : Fq) : Bool := decide (x.q ≠ 0 ∧ ¬(x.s = true ∧ x.p = 0) ∧ Nat.gcd x.p x.q = 1)
def fValidT0 (w : World) (xp : Nat) (xq : Nat) : List (Nat × Tmp × Sp) :=
   [(0, 3, .val (Value.pointer (some ⟨w.heap.size, 1, none⟩))),
    (1, 4, .nat (xp)),
    (2, 5, .val (Value.bool true)),
    (3, 6, .val (Value.bool false)),
    (4, 7, .val (Value.bool false)),
    (5, 8, .val (Value.pointer (some ⟨w.heap.size, 2, none⟩))),
    (6, 9, .nat (xq)),
    (7, 10, .val (Value.bool true)),
    (8, 11, .val (Value.bool false)),
    (9, 12, .val (Value.bool false)),
    (10, 13, .val (Value.bool false)),
    (11, 14, .val (Value.pointer (some ⟨w.heap.size, 2, none⟩))),
    (12, 15, .nat (xq)),
    (13, 16, .val (Value.bool true)),
    (14, 17, .val (Value.bool true))]
def fValidT1 (w : World) (xp : Nat) (xq : Nat) : List (Nat × Tmp × Sp) :=
   [(0, 3, .val (Value.pointer (some ⟨w.heap.size, 1, none⟩))),
    (1, 4, .nat (xp)),
    (2, 5, .val (Value.bool true)),
    (3, 6, .val (Value.bool false)),
    (4, 7, .val (Value.bool false)),
    (5, 8, .val (Value.pointer (some ⟨w.heap.size, 2, none⟩))),
    (6, 9, .nat (xq)),
    (7, 10, .val (Value.bool true)),
    (8, 11, .val (Value.bool false)),
    (9, 12, .val (Value.bool false)),
    (10, 13, .val (Value.bool false)),
    (11, 14, .val (Value.pointer (some ⟨w.heap.size, 2, none⟩))),
    (12, 15, .nat (xq)),
    (13, 16, .val (Value.bool false)),
    (14, 17, .val (Value.bool false))]
def fValidT2 (xp : Nat) (xq : Nat) : List (Nat × Tmp × Sp) :=
   [(0, 18, .fq (Fq.mk true xp xq)),
    (1, 19, .val (Value.agg #[Value.bool true, Value.bool true])),
    (2, 20, .val (Value.agg #[Value.bool true, Value.bool true])),
    (3, 21, .val (Value.bool false)),
    (4, 22, .val (Value.bool false)),
    (5, 23, .val undef),
    (6, 24, .val undef),
    (7, 25, .val undef),
    (8, 26, .val undef),
    (9, 27, .val undef),
    (10, 28, .val undef),
    (11, 29, .val undef),
    (12, 30, .val (Value.bool false)),
    (13, 2, .val (Value.bool false))]
def fValidT3 (w : World) (xp : Nat) (xq : Nat) : List (Nat × Tmp × Sp) :=
   [(0, 3, .val (Value.pointer (some ⟨w.heap.size, 1, none⟩))),
    (1, 4, .nat (xp)),
    (2, 5, .val (Value.bool true)),
    (3, 6, .val (Value.bool false)),
    (4, 7, .val (Value.bool false)),
    (5, 8, .val (Value.pointer (some ⟨w.heap.size, 2, none⟩))),
    (6, 9, .nat (xq)),
    (7, 10, .val (Value.bool true)),
    (8, 11, .val (Value.bool false)),
    (9, 12, .val (Value.bool false)),
    (10, 13, .val (Value.bool false)),
    (11, 14, .val (Value.pointer (some ⟨w.heap.size, 2, none⟩))),
    (12, 15, .nat (xq)),
    (13, 16, .val (Value.bool false)),
    (14, 17, .val (Value.bool false))]
def fValidT4 (w : World) (xp : Nat) (xq : Nat) (Gd : Nat) : List (Nat × Tmp × Sp) :=
   [(0, 18, .fq (Fq.mk true xp xq)),
    (1, 19, .val (Value.agg #[Value.bool true, Value.bool false])),
    (2, 20, .val (Value.agg #[Value.bool true, Value.bool true])),
    (3, 21, .val (Value.bool true)),
    (4, 22, .val (Value.bool true)),
    (5, 23, .val (Value.pointer (some ⟨w.heap.size, 1, none⟩))),
    (6, 24, .nat (xp)),
    (7, 25, .val (Value.pointer (some ⟨w.heap.size, 2, none⟩))),
    (8, 26, .nat (xq)),
    (9, 27, .nat (Gd)),
    (10, 28, .ones Gd),
    (11, 29, .val (Value.bool true)),
    (12, 30, .val (Value.bool true)),
    (13, 2, .val (Value.bool true))]
def fValidT5 (w : World) (xp : Nat) (xq : Nat) : List (Nat × Tmp × Sp) :=
   [(0, 3, .val (Value.pointer (some ⟨w.heap.size, 1, none⟩))),
    (1, 4, .nat (xp)),
    (2, 5, .val (Value.bool true)),
    (3, 6, .val (Value.bool false)),
    (4, 7, .val (Value.bool false)),
    (5, 8, .val (Value.pointer (some ⟨w.heap.size, 2, none⟩))),
    (6, 9, .nat (xq)),
    (7, 10, .val (Value.bool true)),
    (8, 11, .val (Value.bool false)),
    (9, 12, .val (Value.bool false)),
    (10, 13, .val (Value.bool false)),
    (11, 14, .val (Value.pointer (some ⟨w.heap.size, 2, none⟩))),
    (12, 15, .nat (xq)),
    (13, 16, .val (Value.bool false)),
    (14, 17, .val (Value.bool false))]
def fValidT6 (w : World) (xp : Nat) (xq : Nat) (Gd : Nat) : List (Nat × Tmp × Sp) :=
   [(0, 18, .fq (Fq.mk true xp xq)),
    (1, 19, .val (Value.agg #[Value.bool true, Value.bool false])),
    (2, 20, .val (Value.agg #[Value.bool true, Value.bool true])),
    (3, 21, .val (Value.bool true)),
    (4, 22, .val (Value.bool true)),
    (5, 23, .val (Value.pointer (some ⟨w.heap.size, 1, none⟩))),
    (6, 24, .nat (xp)),
    (7, 25, .val (Value.pointer (some ⟨w.heap.size, 2, none⟩))),
    (8, 26, .nat (xq)),
    (9, 27, .nat (Gd)),
    (10, 28, .ones Gd),
    (11, 29, .val (Value.bool false)),
    (12, 30, .val (Value.bool false)),
    (13, 2, .val (Value.bool false))]
def fValidT7 (w : World) (xp : Nat) (xq : Nat) : List (Nat × Tmp × Sp) :=
   [(0, 3, .val (Value.pointer (some ⟨w.heap.size, 1, none⟩))),
    (1, 4, .nat (xp)),
    (2, 5, .val (Value.bool true)),
    (3, 6, .val (Value.bool false)),
    (4, 7, .val (Value.bool false)),
    (5, 8, .val (Value.pointer (some ⟨w.heap.size, 2, none⟩))),
    (6, 9, .nat (xq)),
    (7, 10, .val (Value.bool true)),
    (8, 11, .val (Value.bool false)),
    (9, 12, .val (Value.bool false)),
    (10, 13, .val (Value.bool false)),
    (11, 14, .val (Value.pointer (some ⟨w.heap.size, 2, none⟩))),
    (12, 15, .nat (xq)),
    (13, 16, .val (Value.bool false)),
    (14, 17, .val (Value.bool false))]
def fValidT8 (w : World) (xp : Nat) (xq : Nat) (Gd : Nat) : List (Nat × Tmp × Sp) :=
   [(0, 18, .fq (Fq.mk false xp xq)),
    (1, 19, .val (Value.agg #[Value.bool false, Value.bool true])),
    (2, 20, .val (Value.agg #[Value.bool true, Value.bool true])),
    (3, 21, .val (Value.bool true)),
    (4, 22, .val (Value.bool true)),
    (5, 23, .val (Value.pointer (some ⟨w.heap.size, 1, none⟩))),
    (6, 24, .nat (xp)),
    (7, 25, .val (Value.pointer (some ⟨w.heap.size, 2, none⟩))),
    (8, 26, .nat (xq)),
    (9, 27, .nat (Gd)),
    (10, 28, .ones Gd),
    (11, 29, .val (Value.bool true)),
    (12, 30, .val (Value.bool true)),
    (13, 2, .val (Value.bool true))]
def fValidT9 (w : World) (xp : Nat) (xq : Nat) : List (Nat × Tmp × Sp) :=
   [(0, 3, .val (Value.pointer (some ⟨w.heap.size, 1, none⟩))),
    (1, 4, .nat (xp)),
    (2, 5, .val (Value.bool true)),
    (3, 6, .val (Value.bool false)),
    (4, 7, .val (Value.bool false)),
    (5, 8, .val (Value.pointer (some ⟨w.heap.size, 2, none⟩))),
    (6, 9, .nat (xq)),
    (7, 10, .val (Value.bool true)),
    (8, 11, .val (Value.bool false)),
    (9, 12, .val (Value.bool false)),
    (10, 13, .val (Value.bool false)),
    (11, 14, .val (Value.pointer (some ⟨w.heap.size, 2, none⟩))),
    (12, 15, .nat (xq)),
    (13, 16, .val (Value.bool false)),
    (14, 17, .val (Value.bool false))]
def fValidT10 (w : World) (xp : Nat) (xq : Nat) (Gd : Nat) : List (Nat × Tmp × Sp) :=
   [(0, 18, .fq (Fq.mk false xp xq)),
    (1, 19, .val (Value.agg #[Value.bool false, Value.bool true])),
    (2, 20, .val (Value.agg #[Value.bool true, Value.bool true])),
    (3, 21, .val (Value.bool true)),
    (4, 22, .val (Value.bool true)),
    (5, 23, .val (Value.pointer (some ⟨w.heap.size, 1, none⟩))),
    (6, 24, .nat (xp)),
    (7, 25, .val (Value.pointer (some ⟨w.heap.size, 2, none⟩))),
    (8, 26, .nat (xq)),
    (9, 27, .nat (Gd)),
    (10, 28, .ones Gd),
    (11, 29, .val (Value.bool false)),
    (12, 30, .val (Value.bool false)),
    (13, 2, .val (Value.bool false))]
def fValidT11 (w : World) (xp : Nat) (xq : Nat) : List (Nat × Tmp × Sp) :=
   [(0, 3, .val (Value.pointer (some ⟨w.heap.size, 1, none⟩))),
    (1, 4, .nat (xp)),
    (2, 5, .val (Value.bool true)),
    (3, 6, .val (Value.bool false)),
    (4, 7, .val (Value.bool false)),
    (5, 8, .val (Value.pointer (some ⟨w.heap.size, 2, none⟩))),
    (6, 9, .nat (xq)),
    (7, 10, .val (Value.bool true)),
    (8, 11, .val (Value.bool false)),
    (9, 12, .val (Value.bool false)),
    (10, 13, .val (Value.bool false)),
    (11, 14, .val (Value.pointer (some ⟨w.heap.size, 2, none⟩))),
    (12, 15, .nat (xq)),
    (13, 16, .val (Value.bool false)),
    (14, 17, .val (Value.bool false))]
def fValidT12 (w : World) (xp : Nat) (xq : Nat) (Gd : Nat) : List (Nat × Tmp × Sp) :=
   [(0, 18, .fq (Fq.mk false xp xq)),
    (1, 19, .val (Value.agg #[Value.bool false, Value.bool false])),
    (2, 20, .val (Value.agg #[Value.bool true, Value.bool true])),
    (3, 21, .val (Value.bool true)),
    (4, 22, .val (Value.bool true)),
    (5, 23, .val (Value.pointer (some ⟨w.heap.size, 1, none⟩))),
    (6, 24, .nat (xp)),
    (7, 25, .val (Value.pointer (some ⟨w.heap.size, 2, none⟩))),
    (8, 26, .nat (xq)),
    (9, 27, .nat (Gd)),
    (10, 28, .ones Gd),
    (11, 29, .val (Value.bool true)),
    (12, 30, .val (Value.bool true)),
    (13, 2, .val (Value.bool true))]
def fValidT13 (w : World) (xp : Nat) (xq : Nat) : List (Nat × Tmp × Sp) :=
   [(0, 3, .val (Value.pointer (some ⟨w.heap.size, 1, none⟩))),
    (1, 4, .nat (xp)),
    (2, 5, .val (Value.bool true)),
    (3, 6, .val (Value.bool false)),
    (4, 7, .val (Value.bool false)),
    (5, 8, .val (Value.pointer (some ⟨w.heap.size, 2, none⟩))),
    (6, 9, .nat (xq)),
    (7, 10, .val (Value.bool true)),
    (8, 11, .val (Value.bool false)),
    (9, 12, .val (Value.bool false)),
    (10, 13, .val (Value.bool false)),
    (11, 14, .val (Value.pointer (some ⟨w.heap.size, 2, none⟩))),
    (12, 15, .nat (xq)),
    (13, 16, .val (Value.bool false)),
    (14, 17, .val (Value.bool false))]
def fValidT14 (w : World) (xp : Nat) (xq : Nat) (Gd : Nat) : List (Nat × Tmp × Sp) :=
   [(0, 18, .fq (Fq.mk false xp xq)),
    (1, 19, .val (Value.agg #[Value.bool false, Value.bool false])),
    (2, 20, .val (Value.agg #[Value.bool true, Value.bool true])),
    (3, 21, .val (Value.bool true)),
    (4, 22, .val (Value.bool true)),
    (5, 23, .val (Value.pointer (some ⟨w.heap.size, 1, none⟩))),
    (6, 24, .nat (xp)),
    (7, 25, .val (Value.pointer (some ⟨w.heap.size, 2, none⟩))),
    (8, 26, .nat (xq)),
    (9, 27, .nat (Gd)),
    (10, 28, .ones Gd),
    (11, 29, .val (Value.bool false)),
    (12, 30, .val (Value.bool false)),
    (13, 2, .val (Value.bool false))]
set_option maxHeartbeats 4000000 in
theorem q_fValid (va : Value) (x : Fq) (w : World) (ha : IsQ w va x) (hp : nl x.p ≤ 1000000) (hq : nl x.q ≤ 1000000) :
    Calls Tryz.prog 78 #[va] w fun e w' => RetV w (.bool x.valid) e w' := by
  obtain ⟨xs, xp, xq⟩ := x
  have bp : nl xp ≤ 1000000 := hp
  have bq : nl xq ≤ 1000000 := hq
  by_cases h0 : xq = 0
  · have hv : (Fq.mk xs xp xq).valid = false := decide_eq_false (fun h => h.1 h0)
    have H0 : Hid (decide (xq = 0) = true) := Lib.hid (decide_eq_true h0)
    rw [hv]
    clear hv h0
    obtain ⟨a0, c0, b0, d0, rfl, m0, k0⟩ := boxF ha
    clear ha
    go_enter Tryz.func78, Tryz.ntmps78
    go_upto_region 0 with (fail)
    go_cut [1, 2] (fun s_1 s_2 wx => s_1 = Value.pointer (some ⟨w.heap.size, 0, none⟩) ∧ s_2 = Value.bool false ∧ VarQ wx w.heap.size (Fq.mk xs xp xq) ∧ Below w.heap.size w wx)
    case first =>
      go_wp2_with fail
      go_meet
      case rel => exact ⟨rfl, rfl, k0, m0⟩
    case rest =>
    clear m0 k0
    obtain ⟨rfl, rfl, V0, hb1⟩ := hcut
    go_upto_region 1 with (fail)
    go_cut [17] (fun s_17 wx => s_17 = Value.bool true ∧ VarQ wx w.heap.size (Fq.mk xs xp xq) ∧ Below w.heap.size w wx)
    case first =>
      refine wp_tabGF Tryz.f78 1 (fValidT0 w xp xq) [] (fun _ => false) 15 0 (by kernel_rfl) (by kernel_rfl) (by kernel_rfl) (by kernel_rfl) (by kernel_rfl) (EachX.of_all (fun _ h => by cases h) _) ?_ ?_
      · refine ⟨fun _ _ F => gR rfl rfl (arm_fieldF rfl (F.k 1 (Value.pointer (some ⟨w.heap.size, 0, none⟩))) (run_field1 _)).b, ?_⟩
        refine ⟨fun _ _ F => gR rfl rfl (arm_load1 rfl (F.f 0 rfl) (V0.mono F.below)).b, ?_⟩
        refine ⟨fun _ _ F => gR rfl rfl (arm_C1 rfl (enters Tryz.func91 rfl rfl) (F.f 1 rfl) (fun va w h1 => c_natural_Valid va (nl xp) xp w h1 (by omega)) (fun _ _ h => by have h' : RetV _ _ _ _ := h; rw [decide_eq_true (Eq.refl (nl xp))] at h'; exact ofV h')).b, ?_⟩
        refine ⟨fun _ _ F => gR rfl rfl (arm_not rfl (F.f 2 rfl)).b, ?_⟩
        refine ⟨fun _ _ F => gR rfl rfl (arm_move (.inl rfl) (F.f 3 rfl)).b, ?_⟩
        refine ⟨fun _ _ F => gG F rfl rfl rfl rfl (arm_fieldF rfl (F.k 1 (Value.pointer (some ⟨w.heap.size, 0, none⟩))) (run_field2 _)).b, ?_⟩
        refine ⟨fun _ _ F => gG F rfl rfl rfl rfl (arm_load2 rfl (F.f 5 rfl) (V0.mono F.below)).b, ?_⟩
        refine ⟨fun _ _ F => gG F rfl rfl rfl rfl (arm_C1 rfl (enters Tryz.func91 rfl rfl) (F.f 6 rfl) (fun va w h1 => c_natural_Valid va (nl xq) xq w h1 (by omega)) (fun _ _ h => by have h' : RetV _ _ _ _ := h; rw [decide_eq_true (Eq.refl (nl xq))] at h'; exact ofV h')).b, ?_⟩
        refine ⟨fun _ _ F => gG F rfl rfl rfl rfl (arm_not rfl (F.f 7 rfl)).b, ?_⟩
        refine ⟨fun _ _ F => gR rfl rfl (arm_pick rfl (F.f 4 rfl) (fun h => by cases h) (fun _ => (F.f 8 rfl))).b, ?_⟩
        refine ⟨fun _ _ F => gR rfl rfl (arm_move (.inl rfl) (F.f 9 rfl)).b, ?_⟩
        refine ⟨fun _ _ F => gG F rfl rfl rfl rfl (arm_fieldF rfl (F.k 1 (Value.pointer (some ⟨w.heap.size, 0, none⟩))) (run_field2 _)).b, ?_⟩
        refine ⟨fun _ _ F => gG F rfl rfl rfl rfl (arm_load2 rfl (F.f 11 rfl) (V0.mono F.below)).b, ?_⟩
        refine ⟨fun _ _ F => gG F rfl rfl rfl rfl (arm_C1 rfl (enters Tryz.func73 rfl rfl) (F.f 12 rfl) (fun va w h1 => c_isZero va xq w h1 (Nat.le_trans bq (by decide))) (fun _ _ h => by have h' : RetV _ _ _ _ := h; rw [H0.out] at h'; exact ofV h')).b, ?_⟩
        refine ⟨fun _ _ F => gR rfl rfl (arm_pick rfl (F.f 10 rfl) (fun h => by cases h) (fun _ => (F.f 13 rfl))).b, ?_⟩
        exact trivial
      intro E' hE gp wp bp G Gs
      obtain rfl : E' = [] := by simpa [subs] using hE
      have e_14 : gp 14 = Value.bool true := G 14 17 _ (by simp) rfl
      clear G Gs hE
      simp only [fValidT0]
      simp only [qA, setD, qZ, qS, e_14]
      refine wpAny_done (by kernel_rfl) ?_ _
      go_wp2_with fail
      go_meet
      case rel => exact ⟨rfl, (V0.mono bp), (hb1.trans (bp.mono hb1.size))⟩
    case rest =>
    clear V0 hb1
    obtain ⟨rfl, V0, hb1⟩ := hcut
    go_wp2
    go_ret
    exact ⟨rfl, hb1⟩
  · have H0 : Hid (decide (xq = 0) = false) := Lib.hid (decide_eq_false h0)
    have HN : Hid (xq ≠ 0) := Lib.hid h0
    clear h0
    obtain ⟨Gd, hGd⟩ : ∃ N : Nat, Hid (N = Nat.gcd xp xq) := ⟨_, Lib.hid rfl⟩
    have bg : nl Gd ≤ 1000000 := by rw [hGd.out]; exact Nat.le_trans (nl_mono (Nat.gcd_le_right xp (Nat.pos_of_ne_zero HN.out))) bq
    rcases Bool.eq_false_or_eq_true xs with rfl | rfl
    · by_cases hz : xp = 0
      · have HZ : Hid (decide (xp = 0) = true) := Lib.hid (decide_eq_true hz)
        have hv : (Fq.mk true xp xq).valid = false := decide_eq_false (fun h => h.2.1 ⟨rfl, hz⟩)
        rw [hv]
        clear hv hz
        obtain ⟨a0, c0, b0, d0, rfl, m0, k0⟩ := boxF ha
        clear ha
        go_enter Tryz.func78, Tryz.ntmps78
        go_upto_region 0 with (fail)
        go_cut [1, 2] (fun s_1 s_2 wx => s_1 = Value.pointer (some ⟨w.heap.size, 0, none⟩) ∧ s_2 = Value.bool false ∧ VarQ wx w.heap.size (Fq.mk true xp xq) ∧ Below w.heap.size w wx)
        case first =>
          go_wp2_with fail
          go_meet
          case rel => exact ⟨rfl, rfl, k0, m0⟩
        case rest =>
        clear m0 k0
        obtain ⟨rfl, rfl, V0, hb1⟩ := hcut
        go_upto_region 1 with (fail)
        go_cut [17] (fun s_17 wx => s_17 = Value.bool false ∧ VarQ wx w.heap.size (Fq.mk true xp xq) ∧ Below w.heap.size w wx)
        case first =>
          refine wp_tabGF Tryz.f78 1 (fValidT1 w xp xq) [] (fun _ => false) 15 0 (by kernel_rfl) (by kernel_rfl) (by kernel_rfl) (by kernel_rfl) (by kernel_rfl) (EachX.of_all (fun _ h => by cases h) _) ?_ ?_
          · refine ⟨fun _ _ F => gR rfl rfl (arm_fieldF rfl (F.k 1 (Value.pointer (some ⟨w.heap.size, 0, none⟩))) (run_field1 _)).b, ?_⟩
            refine ⟨fun _ _ F => gR rfl rfl (arm_load1 rfl (F.f 0 rfl) (V0.mono F.below)).b, ?_⟩
            refine ⟨fun _ _ F => gR rfl rfl (arm_C1 rfl (enters Tryz.func91 rfl rfl) (F.f 1 rfl) (fun va w h1 => c_natural_Valid va (nl xp) xp w h1 (by omega)) (fun _ _ h => by have h' : RetV _ _ _ _ := h; rw [decide_eq_true (Eq.refl (nl xp))] at h'; exact ofV h')).b, ?_⟩
            refine ⟨fun _ _ F => gR rfl rfl (arm_not rfl (F.f 2 rfl)).b, ?_⟩
            refine ⟨fun _ _ F => gR rfl rfl (arm_move (.inl rfl) (F.f 3 rfl)).b, ?_⟩
            refine ⟨fun _ _ F => gG F rfl rfl rfl rfl (arm_fieldF rfl (F.k 1 (Value.pointer (some ⟨w.heap.size, 0, none⟩))) (run_field2 _)).b, ?_⟩
            refine ⟨fun _ _ F => gG F rfl rfl rfl rfl (arm_load2 rfl (F.f 5 rfl) (V0.mono F.below)).b, ?_⟩
            refine ⟨fun _ _ F => gG F rfl rfl rfl rfl (arm_C1 rfl (enters Tryz.func91 rfl rfl) (F.f 6 rfl) (fun va w h1 => c_natural_Valid va (nl xq) xq w h1 (by omega)) (fun _ _ h => by have h' : RetV _ _ _ _ := h; rw [decide_eq_true (Eq.refl (nl xq))] at h'; exact ofV h')).b, ?_⟩
            refine ⟨fun _ _ F => gG F rfl rfl rfl rfl (arm_not rfl (F.f 7 rfl)).b, ?_⟩
            refine ⟨fun _ _ F => gR rfl rfl (arm_pick rfl (F.f 4 rfl) (fun h => by cases h) (fun _ => (F.f 8 rfl))).b, ?_⟩
            refine ⟨fun _ _ F => gR rfl rfl (arm_move (.inl rfl) (F.f 9 rfl)).b, ?_⟩
            refine ⟨fun _ _ F => gG F rfl rfl rfl rfl (arm_fieldF rfl (F.k 1 (Value.pointer (some ⟨w.heap.size, 0, none⟩))) (run_field2 _)).b, ?_⟩
            refine ⟨fun _ _ F => gG F rfl rfl rfl rfl (arm_load2 rfl (F.f 11 rfl) (V0.mono F.below)).b, ?_⟩
            refine ⟨fun _ _ F => gG F rfl rfl rfl rfl (arm_C1 rfl (enters Tryz.func73 rfl rfl) (F.f 12 rfl) (fun va w h1 => c_isZero va xq w h1 (Nat.le_trans bq (by decide))) (fun _ _ h => by have h' : RetV _ _ _ _ := h; rw [H0.out] at h'; exact ofV h')).b, ?_⟩
            refine ⟨fun _ _ F => gR rfl rfl (arm_pick rfl (F.f 10 rfl) (fun h => by cases h) (fun _ => (F.f 13 rfl))).b, ?_⟩
            exact trivial
          intro E' hE gp wp bp G Gs
          obtain rfl : E' = [] := by simpa [subs] using hE
          have e_14 : gp 14 = Value.bool false := G 14 17 _ (by simp) rfl
          clear G Gs hE
          simp only [fValidT1]
          simp only [qA, setD, qZ, qS, e_14]
          refine wpAny_done (by kernel_rfl) ?_ _
          go_wp2_with fail
          go_meet
          case rel => exact ⟨rfl, (V0.mono bp), (hb1.trans (bp.mono hb1.size))⟩
        case rest =>
        clear V0 hb1
        obtain ⟨rfl, V0, hb1⟩ := hcut
        go_upto_region 3 with (fail)
        go_cut [2] (fun s_2 wx => s_2 = Value.bool false ∧ VarQ wx w.heap.size (Fq.mk true xp xq) ∧ Below w.heap.size w wx)
        case first =>
          refine wp_tabGF Tryz.f78 3 (fValidT2 xp xq) [] (fun _ => false) 11 0 (by kernel_rfl) (by kernel_rfl) (by kernel_rfl) (by kernel_rfl) (by kernel_rfl) (EachX.of_all (fun _ h => by cases h) _) ?_ ?_
          · refine ⟨fun _ _ F => gR rfl rfl (arm_loadF rfl (F.k 1 (Value.pointer (some ⟨w.heap.size, 0, none⟩))) (V0.mono F.below)).b, ?_⟩
            refine ⟨fun _ _ F => gR rfl rfl (arm_C1 rfl (enters Tryz.func76 rfl rfl) (F.f 0 rfl) (fun va w h1 => c_mark va (Fq.mk true xp xq) w h1 (Nat.le_trans bp (by decide)) HZ.out) (fun _ _ h => ofV h)).b, ?_⟩
            refine ⟨fun _ _ F => gR rfl rfl (arm_buildS2 rfl Is.const Is.const).b, ?_⟩
            refine ⟨fun _ _ F => gR rfl rfl (arm_bin rfl (F.f 1 rfl) (F.f 2 rfl) (fun w => guard_neSS _ _ _ _ w) (fun w => run_neSS _ _ _ _ w)).b, ?_⟩
            refine ⟨fun _ _ F => gR rfl rfl (arm_move (.inl rfl) (F.f 3 rfl)).b, ?_⟩
            refine ⟨fun _ _ F => gS F rfl rfl rfl rfl rfl rfl, ?_⟩
            refine ⟨fun _ _ F => gS F rfl rfl rfl rfl rfl rfl, ?_⟩
            refine ⟨fun _ _ F => gS F rfl rfl rfl rfl rfl rfl, ?_⟩
            refine ⟨fun _ _ F => gS F rfl rfl rfl rfl rfl rfl, ?_⟩
            refine ⟨fun _ _ F => gS F rfl rfl rfl rfl rfl rfl, ?_⟩
            refine ⟨fun _ _ F => gS F rfl rfl rfl rfl rfl rfl, ?_⟩
            refine ⟨fun _ _ F => gS F rfl rfl rfl rfl rfl rfl, ?_⟩
            refine ⟨fun _ _ F => gR rfl rfl (arm_pick rfl (F.f 4 rfl) (fun h => by cases h) (fun _ => Is.const)).b, ?_⟩
            refine ⟨fun _ _ F => gR rfl rfl (arm_move (.inr rfl) (F.f 12 rfl)).b, ?_⟩
            exact trivial
          intro E' hE gp wp bp G Gs
          obtain rfl : E' = [] := by simpa [subs] using hE
          have e_13 : gp 13 = Value.bool false := G 13 2 _ (by simp) rfl
          clear G Gs hE
          simp only [fValidT2]
          simp only [qA, setD, qZ, qS, e_13]
          refine wpAny_done (by kernel_rfl) ?_ _
          go_wp2_with fail
          go_meet
          case rel => exact ⟨rfl, (V0.mono bp), (hb1.trans (bp.mono hb1.size))⟩
        case rest =>
        clear V0 hb1
        obtain ⟨rfl, V0, hb1⟩ := hcut
        go_wp2
        go_ret
        exact ⟨rfl, hb1⟩
      · have HZ : Hid (decide (xp = 0) = false) := Lib.hid (decide_eq_false hz)
        by_cases hg : Gd = 1
        · have HG : Hid (decide (Gd = 1) = true) := Lib.hid (decide_eq_true hg)
          have hv : (Fq.mk true xp xq).valid = true := decide_eq_true ⟨HN.out, fun h => absurd h.2 hz, by rw [← hg]; exact hGd.out.symm⟩
          rw [hv]
          clear hv hz hg
          obtain ⟨a0, c0, b0, d0, rfl, m0, k0⟩ := boxF ha
          clear ha
          go_enter Tryz.func78, Tryz.ntmps78
          go_upto_region 0 with (fail)
          go_cut [1, 2] (fun s_1 s_2 wx => s_1 = Value.pointer (some ⟨w.heap.size, 0, none⟩) ∧ s_2 = Value.bool false ∧ VarQ wx w.heap.size (Fq.mk true xp xq) ∧ Below w.heap.size w wx)
          case first =>
            go_wp2_with fail
            go_meet
            case rel => exact ⟨rfl, rfl, k0, m0⟩
          case rest =>
          clear m0 k0
          obtain ⟨rfl, rfl, V0, hb1⟩ := hcut
          go_upto_region 1 with (fail)
          go_cut [17] (fun s_17 wx => s_17 = Value.bool false ∧ VarQ wx w.heap.size (Fq.mk true xp xq) ∧ Below w.heap.size w wx)
          case first =>
            refine wp_tabGF Tryz.f78 1 (fValidT3 w xp xq) [] (fun _ => false) 15 0 (by kernel_rfl) (by kernel_rfl) (by kernel_rfl) (by kernel_rfl) (by kernel_rfl) (EachX.of_all (fun _ h => by cases h) _) ?_ ?_
            · refine ⟨fun _ _ F => gR rfl rfl (arm_fieldF rfl (F.k 1 (Value.pointer (some ⟨w.heap.size, 0, none⟩))) (run_field1 _)).b, ?_⟩
              refine ⟨fun _ _ F => gR rfl rfl (arm_load1 rfl (F.f 0 rfl) (V0.mono F.below)).b, ?_⟩
              refine ⟨fun _ _ F => gR rfl rfl (arm_C1 rfl (enters Tryz.func91 rfl rfl) (F.f 1 rfl) (fun va w h1 => c_natural_Valid va (nl xp) xp w h1 (by omega)) (fun _ _ h => by have h' : RetV _ _ _ _ := h; rw [decide_eq_true (Eq.refl (nl xp))] at h'; exact ofV h')).b, ?_⟩
              refine ⟨fun _ _ F => gR rfl rfl (arm_not rfl (F.f 2 rfl)).b, ?_⟩
              refine ⟨fun _ _ F => gR rfl rfl (arm_move (.inl rfl) (F.f 3 rfl)).b, ?_⟩
              refine ⟨fun _ _ F => gG F rfl rfl rfl rfl (arm_fieldF rfl (F.k 1 (Value.pointer (some ⟨w.heap.size, 0, none⟩))) (run_field2 _)).b, ?_⟩
              refine ⟨fun _ _ F => gG F rfl rfl rfl rfl (arm_load2 rfl (F.f 5 rfl) (V0.mono F.below)).b, ?_⟩
              refine ⟨fun _ _ F => gG F rfl rfl rfl rfl (arm_C1 rfl (enters Tryz.func91 rfl rfl) (F.f 6 rfl) (fun va w h1 => c_natural_Valid va (nl xq) xq w h1 (by omega)) (fun _ _ h => by have h' : RetV _ _ _ _ := h; rw [decide_eq_true (Eq.refl (nl xq))] at h'; exact ofV h')).b, ?_⟩
              refine ⟨fun _ _ F => gG F rfl rfl rfl rfl (arm_not rfl (F.f 7 rfl)).b, ?_⟩
              refine ⟨fun _ _ F => gR rfl rfl (arm_pick rfl (F.f 4 rfl) (fun h => by cases h) (fun _ => (F.f 8 rfl))).b, ?_⟩
              refine ⟨fun _ _ F => gR rfl rfl (arm_move (.inl rfl) (F.f 9 rfl)).b, ?_⟩
              refine ⟨fun _ _ F => gG F rfl rfl rfl rfl (arm_fieldF rfl (F.k 1 (Value.pointer (some ⟨w.heap.size, 0, none⟩))) (run_field2 _)).b, ?_⟩
              refine ⟨fun _ _ F => gG F rfl rfl rfl rfl (arm_load2 rfl (F.f 11 rfl) (V0.mono F.below)).b, ?_⟩
              refine ⟨fun _ _ F => gG F rfl rfl rfl rfl (arm_C1 rfl (enters Tryz.func73 rfl rfl) (F.f 12 rfl) (fun va w h1 => c_isZero va xq w h1 (Nat.le_trans bq (by decide))) (fun _ _ h => by have h' : RetV _ _ _ _ := h; rw [H0.out] at h'; exact ofV h')).b, ?_⟩
              refine ⟨fun _ _ F => gR rfl rfl (arm_pick rfl (F.f 10 rfl) (fun h => by cases h) (fun _ => (F.f 13 rfl))).b, ?_⟩
              exact trivial
            intro E' hE gp wp bp G Gs
            obtain rfl : E' = [] := by simpa [subs] using hE
            have e_14 : gp 14 = Value.bool false := G 14 17 _ (by simp) rfl
            clear G Gs hE
            simp only [fValidT3]
            simp only [qA, setD, qZ, qS, e_14]
            refine wpAny_done (by kernel_rfl) ?_ _
            go_wp2_with fail
            go_meet
            case rel => exact ⟨rfl, (V0.mono bp), (hb1.trans (bp.mono hb1.size))⟩
          case rest =>
          clear V0 hb1
          obtain ⟨rfl, V0, hb1⟩ := hcut
          go_upto_region 3 with (fail)
          go_cut [2] (fun s_2 wx => s_2 = Value.bool true ∧ VarQ wx w.heap.size (Fq.mk true xp xq) ∧ Below w.heap.size w wx)
          case first =>
            refine wp_tabGF Tryz.f78 3 (fValidT4 w xp xq Gd) [] (fun _ => false) 11 0 (by kernel_rfl) (by kernel_rfl) (by kernel_rfl) (by kernel_rfl) (by kernel_rfl) (EachX.of_all (fun _ h => by cases h) _) ?_ ?_
            · refine ⟨fun _ _ F => gR rfl rfl (arm_loadF rfl (F.k 1 (Value.pointer (some ⟨w.heap.size, 0, none⟩))) (V0.mono F.below)).b, ?_⟩
              refine ⟨fun _ _ F => gR rfl rfl (arm_C1 rfl (enters Tryz.func76 rfl rfl) (F.f 0 rfl) (fun va w h1 => c_mark va (Fq.mk true xp xq) w h1 (Nat.le_trans bp (by decide)) HZ.out) (fun _ _ h => ofV h)).b, ?_⟩
              refine ⟨fun _ _ F => gR rfl rfl (arm_buildS2 rfl Is.const Is.const).b, ?_⟩
              refine ⟨fun _ _ F => gR rfl rfl (arm_bin rfl (F.f 1 rfl) (F.f 2 rfl) (fun w => guard_neSS _ _ _ _ w) (fun w => run_neSS _ _ _ _ w)).b, ?_⟩
              refine ⟨fun _ _ F => gR rfl rfl (arm_move (.inl rfl) (F.f 3 rfl)).b, ?_⟩
              refine ⟨fun _ _ F => gG F rfl rfl rfl rfl (arm_fieldF rfl (F.k 1 (Value.pointer (some ⟨w.heap.size, 0, none⟩))) (run_field1 _)).b, ?_⟩
              refine ⟨fun _ _ F => gG F rfl rfl rfl rfl (arm_load1 rfl (F.f 5 rfl) (V0.mono F.below)).b, ?_⟩
              refine ⟨fun _ _ F => gG F rfl rfl rfl rfl (arm_fieldF rfl (F.k 1 (Value.pointer (some ⟨w.heap.size, 0, none⟩))) (run_field2 _)).b, ?_⟩
              refine ⟨fun _ _ F => gG F rfl rfl rfl rfl (arm_load2 rfl (F.f 7 rfl) (V0.mono F.below)).b, ?_⟩
              refine ⟨fun _ _ F => gG F rfl rfl rfl rfl (arm_C2 rfl (enters Tryz.func84 rfl rfl) (F.f 6 rfl) (F.f 8 rfl) (fun va vb w h1 h2 => c_natural_Gcd va vb xp xq w h1 h2 (Nat.le_trans bp (by decide)) (Nat.le_trans bq (by decide))) (fun _ _ h => by rw [hGd.out]; exact ofNew h)).b, ?_⟩
              refine ⟨fun _ _ F => gG F rfl rfl rfl rfl (arm_ones rfl (F.f 9 rfl)).b, ?_⟩
              refine ⟨fun _ _ F => gG F rfl rfl rfl rfl (arm_C1 rfl (enters Tryz.func92 rfl rfl) (F.f 10 rfl) (fun va w h1 => c_one1 va Gd w h1 (by omega)) (fun _ _ h => by have h' : RetV _ _ _ _ := h; rw [HG.out] at h'; exact ofV h')).b, ?_⟩
              refine ⟨fun _ _ F => gR rfl rfl (arm_pick rfl (F.f 4 rfl) (fun _ => (F.f 11 rfl)) (fun h => by cases h)).b, ?_⟩
              refine ⟨fun _ _ F => gR rfl rfl (arm_move (.inr rfl) (F.f 12 rfl)).b, ?_⟩
              exact trivial
            intro E' hE gp wp bp G Gs
            obtain rfl : E' = [] := by simpa [subs] using hE
            have e_13 : gp 13 = Value.bool true := G 13 2 _ (by simp) rfl
            clear G Gs hE
            simp only [fValidT4]
            simp only [qA, setD, qZ, qS, e_13]
            refine wpAny_done (by kernel_rfl) ?_ _
            go_wp2_with fail
            go_meet
            case rel => exact ⟨rfl, (V0.mono bp), (hb1.trans (bp.mono hb1.size))⟩
          case rest =>
          clear V0 hb1
          obtain ⟨rfl, V0, hb1⟩ := hcut
          go_wp2
          go_ret
          exact ⟨rfl, hb1⟩
        · have HG : Hid (decide (Gd = 1) = false) := Lib.hid (decide_eq_false hg)
          have hv : (Fq.mk true xp xq).valid = false := decide_eq_false (fun h => hg (by rw [hGd.out]; exact h.2.2))
          rw [hv]
          clear hv hz hg
          obtain ⟨a0, c0, b0, d0, rfl, m0, k0⟩ := boxF ha
          clear ha
          go_enter Tryz.func78, Tryz.ntmps78
          go_upto_region 0 with (fail)
          go_cut [1, 2] (fun s_1 s_2 wx => s_1 = Value.pointer (some ⟨w.heap.size, 0, none⟩) ∧ s_2 = Value.bool false ∧ VarQ wx w.heap.size (Fq.mk true xp xq) ∧ Below w.heap.size w wx)
          case first =>
            go_wp2_with fail
            go_meet
            case rel => exact ⟨rfl, rfl, k0, m0⟩
          case rest =>
          clear m0 k0
          obtain ⟨rfl, rfl, V0, hb1⟩ := hcut
          go_upto_region 1 with (fail)
          go_cut [17] (fun s_17 wx => s_17 = Value.bool false ∧ VarQ wx w.heap.size (Fq.mk true xp xq) ∧ Below w.heap.size w wx)
          case first =>
            refine wp_tabGF Tryz.f78 1 (fValidT5 w xp xq) [] (fun _ => false) 15 0 (by kernel_rfl) (by kernel_rfl) (by kernel_rfl) (by kernel_rfl) (by kernel_rfl) (EachX.of_all (fun _ h => by cases h) _) ?_ ?_
            · refine ⟨fun _ _ F => gR rfl rfl (arm_fieldF rfl (F.k 1 (Value.pointer (some ⟨w.heap.size, 0, none⟩))) (run_field1 _)).b, ?_⟩
              refine ⟨fun _ _ F => gR rfl rfl (arm_load1 rfl (F.f 0 rfl) (V0.mono F.below)).b, ?_⟩
              refine ⟨fun _ _ F => gR rfl rfl (arm_C1 rfl (enters Tryz.func91 rfl rfl) (F.f 1 rfl) (fun va w h1 => c_natural_Valid va (nl xp) xp w h1 (by omega)) (fun _ _ h => by have h' : RetV _ _ _ _ := h; rw [decide_eq_true (Eq.refl (nl xp))] at h'; exact ofV h')).b, ?_⟩
              refine ⟨fun _ _ F => gR rfl rfl (arm_not rfl (F.f 2 rfl)).b, ?_⟩
              refine ⟨fun _ _ F => gR rfl rfl (arm_move (.inl rfl) (F.f 3 rfl)).b, ?_⟩
              refine ⟨fun _ _ F => gG F rfl rfl rfl rfl (arm_fieldF rfl (F.k 1 (Value.pointer (some ⟨w.heap.size, 0, none⟩))) (run_field2 _)).b, ?_⟩
              refine ⟨fun _ _ F => gG F rfl rfl rfl rfl (arm_load2 rfl (F.f 5 rfl) (V0.mono F.below)).b, ?_⟩
              refine ⟨fun _ _ F => gG F rfl rfl rfl rfl (arm_C1 rfl (enters Tryz.func91 rfl rfl) (F.f 6 rfl) (fun va w h1 => c_natural_Valid va (nl xq) xq w h1 (by omega)) (fun _ _ h => by have h' : RetV _ _ _ _ := h; rw [decide_eq_true (Eq.refl (nl xq))] at h'; exact ofV h')).b, ?_⟩
              refine ⟨fun _ _ F => gG F rfl rfl rfl rfl (arm_not rfl (F.f 7 rfl)).b, ?_⟩
              refine ⟨fun _ _ F => gR rfl rfl (arm_pick rfl (F.f 4 rfl) (fun h => by cases h) (fun _ => (F.f 8 rfl))).b, ?_⟩
              refine ⟨fun _ _ F => gR rfl rfl (arm_move (.inl rfl) (F.f 9 rfl)).b, ?_⟩
              refine ⟨fun _ _ F => gG F rfl rfl rfl rfl (arm_fieldF rfl (F.k 1 (Value.pointer (some ⟨w.heap.size, 0, none⟩))) (run_field2 _)).b, ?_⟩
              refine ⟨fun _ _ F => gG F rfl rfl rfl rfl (arm_load2 rfl (F.f 11 rfl) (V0.mono F.below)).b, ?_⟩
              refine ⟨fun _ _ F => gG F rfl rfl rfl rfl (arm_C1 rfl (enters Tryz.func73 rfl rfl) (F.f 12 rfl) (fun va w h1 => c_isZero va xq w h1 (Nat.le_trans bq (by decide))) (fun _ _ h => by have h' : RetV _ _ _ _ := h; rw [H0.out] at h'; exact ofV h')).b, ?_⟩
              refine ⟨fun _ _ F => gR rfl rfl (arm_pick rfl (F.f 10 rfl) (fun h => by cases h) (fun _ => (F.f 13 rfl))).b, ?_⟩
              exact trivial
            intro E' hE gp wp bp G Gs
            obtain rfl : E' = [] := by simpa [subs] using hE
            have e_14 : gp 14 = Value.bool false := G 14 17 _ (by simp) rfl
            clear G Gs hE
            simp only [fValidT5]
            simp only [qA, setD, qZ, qS, e_14]
            refine wpAny_done (by kernel_rfl) ?_ _
            go_wp2_with fail
            go_meet
            case rel => exact ⟨rfl, (V0.mono bp), (hb1.trans (bp.mono hb1.size))⟩
          case rest =>
          clear V0 hb1
          obtain ⟨rfl, V0, hb1⟩ := hcut
          go_upto_region 3 with (fail)
          go_cut [2] (fun s_2 wx => s_2 = Value.bool false ∧ VarQ wx w.heap.size (Fq.mk true xp xq) ∧ Below w.heap.size w wx)
          case first =>
            refine wp_tabGF Tryz.f78 3 (fValidT6 w xp xq Gd) [] (fun _ => false) 11 0 (by kernel_rfl) (by kernel_rfl) (by kernel_rfl) (by kernel_rfl) (by kernel_rfl) (EachX.of_all (fun _ h => by cases h) _) ?_ ?_
            · refine ⟨fun _ _ F => gR rfl rfl (arm_loadF rfl (F.k 1 (Value.pointer (some ⟨w.heap.size, 0, none⟩))) (V0.mono F.below)).b, ?_⟩
              refine ⟨fun _ _ F => gR rfl rfl (arm_C1 rfl (enters Tryz.func76 rfl rfl) (F.f 0 rfl) (fun va w h1 => c_mark va (Fq.mk true xp xq) w h1 (Nat.le_trans bp (by decide)) HZ.out) (fun _ _ h => ofV h)).b, ?_⟩
              refine ⟨fun _ _ F => gR rfl rfl (arm_buildS2 rfl Is.const Is.const).b, ?_⟩
              refine ⟨fun _ _ F => gR rfl rfl (arm_bin rfl (F.f 1 rfl) (F.f 2 rfl) (fun w => guard_neSS _ _ _ _ w) (fun w => run_neSS _ _ _ _ w)).b, ?_⟩
              refine ⟨fun _ _ F => gR rfl rfl (arm_move (.inl rfl) (F.f 3 rfl)).b, ?_⟩
              refine ⟨fun _ _ F => gG F rfl rfl rfl rfl (arm_fieldF rfl (F.k 1 (Value.pointer (some ⟨w.heap.size, 0, none⟩))) (run_field1 _)).b, ?_⟩
              refine ⟨fun _ _ F => gG F rfl rfl rfl rfl (arm_load1 rfl (F.f 5 rfl) (V0.mono F.below)).b, ?_⟩
              refine ⟨fun _ _ F => gG F rfl rfl rfl rfl (arm_fieldF rfl (F.k 1 (Value.pointer (some ⟨w.heap.size, 0, none⟩))) (run_field2 _)).b, ?_⟩
              refine ⟨fun _ _ F => gG F rfl rfl rfl rfl (arm_load2 rfl (F.f 7 rfl) (V0.mono F.below)).b, ?_⟩
              refine ⟨fun _ _ F => gG F rfl rfl rfl rfl (arm_C2 rfl (enters Tryz.func84 rfl rfl) (F.f 6 rfl) (F.f 8 rfl) (fun va vb w h1 h2 => c_natural_Gcd va vb xp xq w h1 h2 (Nat.le_trans bp (by decide)) (Nat.le_trans bq (by decide))) (fun _ _ h => by rw [hGd.out]; exact ofNew h)).b, ?_⟩
              refine ⟨fun _ _ F => gG F rfl rfl rfl rfl (arm_ones rfl (F.f 9 rfl)).b, ?_⟩
              refine ⟨fun _ _ F => gG F rfl rfl rfl rfl (arm_C1 rfl (enters Tryz.func92 rfl rfl) (F.f 10 rfl) (fun va w h1 => c_one1 va Gd w h1 (by omega)) (fun _ _ h => by have h' : RetV _ _ _ _ := h; rw [HG.out] at h'; exact ofV h')).b, ?_⟩
              refine ⟨fun _ _ F => gR rfl rfl (arm_pick rfl (F.f 4 rfl) (fun _ => (F.f 11 rfl)) (fun h => by cases h)).b, ?_⟩
              refine ⟨fun _ _ F => gR rfl rfl (arm_move (.inr rfl) (F.f 12 rfl)).b, ?_⟩
              exact trivial
            intro E' hE gp wp bp G Gs
            obtain rfl : E' = [] := by simpa [subs] using hE
            have e_13 : gp 13 = Value.bool false := G 13 2 _ (by simp) rfl
            clear G Gs hE
            simp only [fValidT6]
            simp only [qA, setD, qZ, qS, e_13]
            refine wpAny_done (by kernel_rfl) ?_ _
            go_wp2_with fail
            go_meet
            case rel => exact ⟨rfl, (V0.mono bp), (hb1.trans (bp.mono hb1.size))⟩
          case rest =>
          clear V0 hb1
          obtain ⟨rfl, V0, hb1⟩ := hcut
          go_wp2
          go_ret
          exact ⟨rfl, hb1⟩
    · by_cases hz : xp = 0
      · have HZ : Hid (decide (xp = 0) = true) := Lib.hid (decide_eq_true hz)
        by_cases hg : Gd = 1
        · have HG : Hid (decide (Gd = 1) = true) := Lib.hid (decide_eq_true hg)
          have hv : (Fq.mk false xp xq).valid = true := decide_eq_true ⟨HN.out, fun h => (by have h1 := h.1; cases h1), by rw [← hg]; exact hGd.out.symm⟩
          rw [hv]
          clear hv hz hg
          obtain ⟨a0, c0, b0, d0, rfl, m0, k0⟩ := boxF ha
          clear ha
          go_enter Tryz.func78, Tryz.ntmps78
          go_upto_region 0 with (fail)
          go_cut [1, 2] (fun s_1 s_2 wx => s_1 = Value.pointer (some ⟨w.heap.size, 0, none⟩) ∧ s_2 = Value.bool false ∧ VarQ wx w.heap.size (Fq.mk false xp xq) ∧ Below w.heap.size w wx)
          case first =>
            go_wp2_with fail
            go_meet
            case rel => exact ⟨rfl, rfl, k0, m0⟩
          case rest =>
          clear m0 k0
          obtain ⟨rfl, rfl, V0, hb1⟩ := hcut
          go_upto_region 1 with (fail)
          go_cut [17] (fun s_17 wx => s_17 = Value.bool false ∧ VarQ wx w.heap.size (Fq.mk false xp xq) ∧ Below w.heap.size w wx)
          case first =>
            refine wp_tabGF Tryz.f78 1 (fValidT7 w xp xq) [] (fun _ => false) 15 0 (by kernel_rfl) (by kernel_rfl) (by kernel_rfl) (by kernel_rfl) (by kernel_rfl) (EachX.of_all (fun _ h => by cases h) _) ?_ ?_
            · refine ⟨fun _ _ F => gR rfl rfl (arm_fieldF rfl (F.k 1 (Value.pointer (some ⟨w.heap.size, 0, none⟩))) (run_field1 _)).b, ?_⟩
              refine ⟨fun _ _ F => gR rfl rfl (arm_load1 rfl (F.f 0 rfl) (V0.mono F.below)).b, ?_⟩
              refine ⟨fun _ _ F => gR rfl rfl (arm_C1 rfl (enters Tryz.func91 rfl rfl) (F.f 1 rfl) (fun va w h1 => c_natural_Valid va (nl xp) xp w h1 (by omega)) (fun _ _ h => by have h' : RetV _ _ _ _ := h; rw [decide_eq_true (Eq.refl (nl xp))] at h'; exact ofV h')).b, ?_⟩
              refine ⟨fun _ _ F => gR rfl rfl (arm_not rfl (F.f 2 rfl)).b, ?_⟩
              refine ⟨fun _ _ F => gR rfl rfl (arm_move (.inl rfl) (F.f 3 rfl)).b, ?_⟩
              refine ⟨fun _ _ F => gG F rfl rfl rfl rfl (arm_fieldF rfl (F.k 1 (Value.pointer (some ⟨w.heap.size, 0, none⟩))) (run_field2 _)).b, ?_⟩
              refine ⟨fun _ _ F => gG F rfl rfl rfl rfl (arm_load2 rfl (F.f 5 rfl) (V0.mono F.below)).b, ?_⟩
              refine ⟨fun _ _ F => gG F rfl rfl rfl rfl (arm_C1 rfl (enters Tryz.func91 rfl rfl) (F.f 6 rfl) (fun va w h1 => c_natural_Valid va (nl xq) xq w h1 (by omega)) (fun _ _ h => by have h' : RetV _ _ _ _ := h; rw [decide_eq_true (Eq.refl (nl xq))] at h'; exact ofV h')).b, ?_⟩
              refine ⟨fun _ _ F => gG F rfl rfl rfl rfl (arm_not rfl (F.f 7 rfl)).b, ?_⟩
              refine ⟨fun _ _ F => gR rfl rfl (arm_pick rfl (F.f 4 rfl) (fun h => by cases h) (fun _ => (F.f 8 rfl))).b, ?_⟩
              refine ⟨fun _ _ F => gR rfl rfl (arm_move (.inl rfl) (F.f 9 rfl)).b, ?_⟩
              refine ⟨fun _ _ F => gG F rfl rfl rfl rfl (arm_fieldF rfl (F.k 1 (Value.pointer (some ⟨w.heap.size, 0, none⟩))) (run_field2 _)).b, ?_⟩
              refine ⟨fun _ _ F => gG F rfl rfl rfl rfl (arm_load2 rfl (F.f 11 rfl) (V0.mono F.below)).b, ?_⟩
              refine ⟨fun _ _ F => gG F rfl rfl rfl rfl (arm_C1 rfl (enters Tryz.func73 rfl rfl) (F.f 12 rfl) (fun va w h1 => c_isZero va xq w h1 (Nat.le_trans bq (by decide))) (fun _ _ h => by have h' : RetV _ _ _ _ := h; rw [H0.out] at h'; exact ofV h')).b, ?_⟩
              refine ⟨fun _ _ F => gR rfl rfl (arm_pick rfl (F.f 10 rfl) (fun h => by cases h) (fun _ => (F.f 13 rfl))).b, ?_⟩
              exact trivial
            intro E' hE gp wp bp G Gs
            obtain rfl : E' = [] := by simpa [subs] using hE
            have e_14 : gp 14 = Value.bool false := G 14 17 _ (by simp) rfl
            clear G Gs hE
            simp only [fValidT7]
            simp only [qA, setD, qZ, qS, e_14]
            refine wpAny_done (by kernel_rfl) ?_ _
            go_wp2_with fail
            go_meet
            case rel => exact ⟨rfl, (V0.mono bp), (hb1.trans (bp.mono hb1.size))⟩
          case rest =>
          clear V0 hb1
          obtain ⟨rfl, V0, hb1⟩ := hcut
          go_upto_region 3 with (fail)
          go_cut [2] (fun s_2 wx => s_2 = Value.bool true ∧ VarQ wx w.heap.size (Fq.mk false xp xq) ∧ Below w.heap.size w wx)
          case first =>
            refine wp_tabGF Tryz.f78 3 (fValidT8 w xp xq Gd) [] (fun _ => false) 11 0 (by kernel_rfl) (by kernel_rfl) (by kernel_rfl) (by kernel_rfl) (by kernel_rfl) (EachX.of_all (fun _ h => by cases h) _) ?_ ?_
            · refine ⟨fun _ _ F => gR rfl rfl (arm_loadF rfl (F.k 1 (Value.pointer (some ⟨w.heap.size, 0, none⟩))) (V0.mono F.below)).b, ?_⟩
              refine ⟨fun _ _ F => gR rfl rfl (arm_C1 rfl (enters Tryz.func76 rfl rfl) (F.f 0 rfl) (fun va w h1 => c_mark va (Fq.mk false xp xq) w h1 (Nat.le_trans bp (by decide)) HZ.out) (fun _ _ h => ofV h)).b, ?_⟩
              refine ⟨fun _ _ F => gR rfl rfl (arm_buildS2 rfl Is.const Is.const).b, ?_⟩
              refine ⟨fun _ _ F => gR rfl rfl (arm_bin rfl (F.f 1 rfl) (F.f 2 rfl) (fun w => guard_neSS _ _ _ _ w) (fun w => run_neSS _ _ _ _ w)).b, ?_⟩
              refine ⟨fun _ _ F => gR rfl rfl (arm_move (.inl rfl) (F.f 3 rfl)).b, ?_⟩
              refine ⟨fun _ _ F => gG F rfl rfl rfl rfl (arm_fieldF rfl (F.k 1 (Value.pointer (some ⟨w.heap.size, 0, none⟩))) (run_field1 _)).b, ?_⟩
              refine ⟨fun _ _ F => gG F rfl rfl rfl rfl (arm_load1 rfl (F.f 5 rfl) (V0.mono F.below)).b, ?_⟩
              refine ⟨fun _ _ F => gG F rfl rfl rfl rfl (arm_fieldF rfl (F.k 1 (Value.pointer (some ⟨w.heap.size, 0, none⟩))) (run_field2 _)).b, ?_⟩
              refine ⟨fun _ _ F => gG F rfl rfl rfl rfl (arm_load2 rfl (F.f 7 rfl) (V0.mono F.below)).b, ?_⟩
              refine ⟨fun _ _ F => gG F rfl rfl rfl rfl (arm_C2 rfl (enters Tryz.func84 rfl rfl) (F.f 6 rfl) (F.f 8 rfl) (fun va vb w h1 h2 => c_natural_Gcd va vb xp xq w h1 h2 (Nat.le_trans bp (by decide)) (Nat.le_trans bq (by decide))) (fun _ _ h => by rw [hGd.out]; exact ofNew h)).b, ?_⟩
              refine ⟨fun _ _ F => gG F rfl rfl rfl rfl (arm_ones rfl (F.f 9 rfl)).b, ?_⟩
              refine ⟨fun _ _ F => gG F rfl rfl rfl rfl (arm_C1 rfl (enters Tryz.func92 rfl rfl) (F.f 10 rfl) (fun va w h1 => c_one1 va Gd w h1 (by omega)) (fun _ _ h => by have h' : RetV _ _ _ _ := h; rw [HG.out] at h'; exact ofV h')).b, ?_⟩
              refine ⟨fun _ _ F => gR rfl rfl (arm_pick rfl (F.f 4 rfl) (fun _ => (F.f 11 rfl)) (fun h => by cases h)).b, ?_⟩
              refine ⟨fun _ _ F => gR rfl rfl (arm_move (.inr rfl) (F.f 12 rfl)).b, ?_⟩
              exact trivial
            intro E' hE gp wp bp G Gs
            obtain rfl : E' = [] := by simpa [subs] using hE
            have e_13 : gp 13 = Value.bool true := G 13 2 _ (by simp) rfl
            clear G Gs hE
            simp only [fValidT8]
            simp only [qA, setD, qZ, qS, e_13]
            refine wpAny_done (by kernel_rfl) ?_ _
            go_wp2_with fail
            go_meet
            case rel => exact ⟨rfl, (V0.mono bp), (hb1.trans (bp.mono hb1.size))⟩
          case rest =>
          clear V0 hb1
          obtain ⟨rfl, V0, hb1⟩ := hcut
          go_wp2
          go_ret
          exact ⟨rfl, hb1⟩
        · have HG : Hid (decide (Gd = 1) = false) := Lib.hid (decide_eq_false hg)
          have hv : (Fq.mk false xp xq).valid = false := decide_eq_false (fun h => hg (by rw [hGd.out]; exact h.2.2))
          rw [hv]
          clear hv hz hg
          obtain ⟨a0, c0, b0, d0, rfl, m0, k0⟩ := boxF ha
          clear ha
          go_enter Tryz.func78, Tryz.ntmps78
          go_upto_region 0 with (fail)
          go_cut [1, 2] (fun s_1 s_2 wx => s_1 = Value.pointer (some ⟨w.heap.size, 0, none⟩) ∧ s_2 = Value.bool false ∧ VarQ wx w.heap.size (Fq.mk false xp xq) ∧ Below w.heap.size w wx)
          case first =>
            go_wp2_with fail
            go_meet
            case rel => exact ⟨rfl, rfl, k0, m0⟩
          case rest =>
          clear m0 k0
          obtain ⟨rfl, rfl, V0, hb1⟩ := hcut
          go_upto_region 1 with (fail)
          go_cut [17] (fun s_17 wx => s_17 = Value.bool false ∧ VarQ wx w.heap.size (Fq.mk false xp xq) ∧ Below w.heap.size w wx)
          case first =>
            refine wp_tabGF Tryz.f78 1 (fValidT9 w xp xq) [] (fun _ => false) 15 0 (by kernel_rfl) (by kernel_rfl) (by kernel_rfl) (by kernel_rfl) (by kernel_rfl) (EachX.of_all (fun _ h => by cases h) _) ?_ ?_
            · refine ⟨fun _ _ F => gR rfl rfl (arm_fieldF rfl (F.k 1 (Value.pointer (some ⟨w.heap.size, 0, none⟩))) (run_field1 _)).b, ?_⟩
              refine ⟨fun _ _ F => gR rfl rfl (arm_load1 rfl (F.f 0 rfl) (V0.mono F.below)).b, ?_⟩
              refine ⟨fun _ _ F => gR rfl rfl (arm_C1 rfl (enters Tryz.func91 rfl rfl) (F.f 1 rfl) (fun va w h1 => c_natural_Valid va (nl xp) xp w h1 (by omega)) (fun _ _ h => by have h' : RetV _ _ _ _ := h; rw [decide_eq_true (Eq.refl (nl xp))] at h'; exact ofV h')).b, ?_⟩
              refine ⟨fun _ _ F => gR rfl rfl (arm_not rfl (F.f 2 rfl)).b, ?_⟩
              refine ⟨fun _ _ F => gR rfl rfl (arm_move (.inl rfl) (F.f 3 rfl)).b, ?_⟩
              refine ⟨fun _ _ F => gG F rfl rfl rfl rfl (arm_fieldF rfl (F.k 1 (Value.pointer (some ⟨w.heap.size, 0, none⟩))) (run_field2 _)).b, ?_⟩
              refine ⟨fun _ _ F => gG F rfl rfl rfl rfl (arm_load2 rfl (F.f 5 rfl) (V0.mono F.below)).b, ?_⟩
              refine ⟨fun _ _ F => gG F rfl rfl rfl rfl (arm_C1 rfl (enters Tryz.func91 rfl rfl) (F.f 6 rfl) (fun va w h1 => c_natural_Valid va (nl xq) xq w h1 (by omega)) (fun _ _ h => by have h' : RetV _ _ _ _ := h; rw [decide_eq_true (Eq.refl (nl xq))] at h'; exact ofV h')).b, ?_⟩
              refine ⟨fun _ _ F => gG F rfl rfl rfl rfl (arm_not rfl (F.f 7 rfl)).b, ?_⟩
              refine ⟨fun _ _ F => gR rfl rfl (arm_pick rfl (F.f 4 rfl) (fun h => by cases h) (fun _ => (F.f 8 rfl))).b, ?_⟩
              refine ⟨fun _ _ F => gR rfl rfl (arm_move (.inl rfl) (F.f 9 rfl)).b, ?_⟩
              refine ⟨fun _ _ F => gG F rfl rfl rfl rfl (arm_fieldF rfl (F.k 1 (Value.pointer (some ⟨w.heap.size, 0, none⟩))) (run_field2 _)).b, ?_⟩
              refine ⟨fun _ _ F => gG F rfl rfl rfl rfl (arm_load2 rfl (F.f 11 rfl) (V0.mono F.below)).b, ?_⟩
              refine ⟨fun _ _ F => gG F rfl rfl rfl rfl (arm_C1 rfl (enters Tryz.func73 rfl rfl) (F.f 12 rfl) (fun va w h1 => c_isZero va xq w h1 (Nat.le_trans bq (by decide))) (fun _ _ h => by have h' : RetV _ _ _ _ := h; rw [H0.out] at h'; exact ofV h')).b, ?_⟩
              refine ⟨fun _ _ F => gR rfl rfl (arm_pick rfl (F.f 10 rfl) (fun h => by cases h) (fun _ => (F.f 13 rfl))).b, ?_⟩
              exact trivial
            intro E' hE gp wp bp G Gs
            obtain rfl : E' = [] := by simpa [subs] using hE
            have e_14 : gp 14 = Value.bool false := G 14 17 _ (by simp) rfl
            clear G Gs hE
            simp only [fValidT9]
            simp only [qA, setD, qZ, qS, e_14]
            refine wpAny_done (by kernel_rfl) ?_ _
            go_wp2_with fail
            go_meet
            case rel => exact ⟨rfl, (V0.mono bp), (hb1.trans (bp.mono hb1.size))⟩
          case rest =>
          clear V0 hb1
          obtain ⟨rfl, V0, hb1⟩ := hcut
          go_upto_region 3 with (fail)
          go_cut [2] (fun s_2 wx => s_2 = Value.bool false ∧ VarQ wx w.heap.size (Fq.mk false xp xq) ∧ Below w.heap.size w wx)
          case first =>
            refine wp_tabGF Tryz.f78 3 (fValidT10 w xp xq Gd) [] (fun _ => false) 11 0 (by kernel_rfl) (by kernel_rfl) (by kernel_rfl) (by kernel_rfl) (by kernel_rfl) (EachX.of_all (fun _ h => by cases h) _) ?_ ?_
            · refine ⟨fun _ _ F => gR rfl rfl (arm_loadF rfl (F.k 1 (Value.pointer (some ⟨w.heap.size, 0, none⟩))) (V0.mono F.below)).b, ?_⟩
              refine ⟨fun _ _ F => gR rfl rfl (arm_C1 rfl (enters Tryz.func76 rfl rfl) (F.f 0 rfl) (fun va w h1 => c_mark va (Fq.mk false xp xq) w h1 (Nat.le_trans bp (by decide)) HZ.out) (fun _ _ h => ofV h)).b, ?_⟩
              refine ⟨fun _ _ F => gR rfl rfl (arm_buildS2 rfl Is.const Is.const).b, ?_⟩
              refine ⟨fun _ _ F => gR rfl rfl (arm_bin rfl (F.f 1 rfl) (F.f 2 rfl) (fun w => guard_neSS _ _ _ _ w) (fun w => run_neSS _ _ _ _ w)).b, ?_⟩
              refine ⟨fun _ _ F => gR rfl rfl (arm_move (.inl rfl) (F.f 3 rfl)).b, ?_⟩
              refine ⟨fun _ _ F => gG F rfl rfl rfl rfl (arm_fieldF rfl (F.k 1 (Value.pointer (some ⟨w.heap.size, 0, none⟩))) (run_field1 _)).b, ?_⟩
              refine ⟨fun _ _ F => gG F rfl rfl rfl rfl (arm_load1 rfl (F.f 5 rfl) (V0.mono F.below)).b, ?_⟩
              refine ⟨fun _ _ F => gG F rfl rfl rfl rfl (arm_fieldF rfl (F.k 1 (Value.pointer (some ⟨w.heap.size, 0, none⟩))) (run_field2 _)).b, ?_⟩
              refine ⟨fun _ _ F => gG F rfl rfl rfl rfl (arm_load2 rfl (F.f 7 rfl) (V0.mono F.below)).b, ?_⟩
              refine ⟨fun _ _ F => gG F rfl rfl rfl rfl (arm_C2 rfl (enters Tryz.func84 rfl rfl) (F.f 6 rfl) (F.f 8 rfl) (fun va vb w h1 h2 => c_natural_Gcd va vb xp xq w h1 h2 (Nat.le_trans bp (by decide)) (Nat.le_trans bq (by decide))) (fun _ _ h => by rw [hGd.out]; exact ofNew h)).b, ?_⟩
              refine ⟨fun _ _ F => gG F rfl rfl rfl rfl (arm_ones rfl (F.f 9 rfl)).b, ?_⟩
              refine ⟨fun _ _ F => gG F rfl rfl rfl rfl (arm_C1 rfl (enters Tryz.func92 rfl rfl) (F.f 10 rfl) (fun va w h1 => c_one1 va Gd w h1 (by omega)) (fun _ _ h => by have h' : RetV _ _ _ _ := h; rw [HG.out] at h'; exact ofV h')).b, ?_⟩
              refine ⟨fun _ _ F => gR rfl rfl (arm_pick rfl (F.f 4 rfl) (fun _ => (F.f 11 rfl)) (fun h => by cases h)).b, ?_⟩
              refine ⟨fun _ _ F => gR rfl rfl (arm_move (.inr rfl) (F.f 12 rfl)).b, ?_⟩
              exact trivial
            intro E' hE gp wp bp G Gs
            obtain rfl : E' = [] := by simpa [subs] using hE
            have e_13 : gp 13 = Value.bool false := G 13 2 _ (by simp) rfl
            clear G Gs hE
            simp only [fValidT10]
            simp only [qA, setD, qZ, qS, e_13]
            refine wpAny_done (by kernel_rfl) ?_ _
            go_wp2_with fail
            go_meet
            case rel => exact ⟨rfl, (V0.mono bp), (hb1.trans (bp.mono hb1.size))⟩
          case rest =>
          clear V0 hb1
          obtain ⟨rfl, V0, hb1⟩ := hcut
          go_wp2
          go_ret
          exact ⟨rfl, hb1⟩
      · have HZ : Hid (decide (xp = 0) = false) := Lib.hid (decide_eq_false hz)
        by_cases hg : Gd = 1
        · have HG : Hid (decide (Gd = 1) = true) := Lib.hid (decide_eq_true hg)
          have hv : (Fq.mk false xp xq).valid = true := decide_eq_true ⟨HN.out, fun h => (by have h1 := h.1; cases h1), by rw [← hg]; exact hGd.out.symm⟩
          rw [hv]
          clear hv hz hg
          obtain ⟨a0, c0, b0, d0, rfl, m0, k0⟩ := boxF ha
          clear ha
          go_enter Tryz.func78, Tryz.ntmps78
          go_upto_region 0 with (fail)
          go_cut [1, 2] (fun s_1 s_2 wx => s_1 = Value.pointer (some ⟨w.heap.size, 0, none⟩) ∧ s_2 = Value.bool false ∧ VarQ wx w.heap.size (Fq.mk false xp xq) ∧ Below w.heap.size w wx)
          case first =>
            go_wp2_with fail
            go_meet
            case rel => exact ⟨rfl, rfl, k0, m0⟩
          case rest =>
          clear m0 k0
          obtain ⟨rfl, rfl, V0, hb1⟩ := hcut
          go_upto_region 1 with (fail)
          go_cut [17] (fun s_17 wx => s_17 = Value.bool false ∧ VarQ wx w.heap.size (Fq.mk false xp xq) ∧ Below w.heap.size w wx)
          case first =>
            refine wp_tabGF Tryz.f78 1 (fValidT11 w xp xq) [] (fun _ => false) 15 0 (by kernel_rfl) (by kernel_rfl) (by kernel_rfl) (by kernel_rfl) (by kernel_rfl) (EachX.of_all (fun _ h => by cases h) _) ?_ ?_
            · refine ⟨fun _ _ F => gR rfl rfl (arm_fieldF rfl (F.k 1 (Value.pointer (some ⟨w.heap.size, 0, none⟩))) (run_field1 _)).b, ?_⟩
              refine ⟨fun _ _ F => gR rfl rfl (arm_load1 rfl (F.f 0 rfl) (V0.mono F.below)).b, ?_⟩
              refine ⟨fun _ _ F => gR rfl rfl (arm_C1 rfl (enters Tryz.func91 rfl rfl) (F.f 1 rfl) (fun va w h1 => c_natural_Valid va (nl xp) xp w h1 (by omega)) (fun _ _ h => by have h' : RetV _ _ _ _ := h; rw [decide_eq_true (Eq.refl (nl xp))] at h'; exact ofV h')).b, ?_⟩
              refine ⟨fun _ _ F => gR rfl rfl (arm_not rfl (F.f 2 rfl)).b, ?_⟩
              refine ⟨fun _ _ F => gR rfl rfl (arm_move (.inl rfl) (F.f 3 rfl)).b, ?_⟩
              refine ⟨fun _ _ F => gG F rfl rfl rfl rfl (arm_fieldF rfl (F.k 1 (Value.pointer (some ⟨w.heap.size, 0, none⟩))) (run_field2 _)).b, ?_⟩
              refine ⟨fun _ _ F => gG F rfl rfl rfl rfl (arm_load2 rfl (F.f 5 rfl) (V0.mono F.below)).b, ?_⟩
              refine ⟨fun _ _ F => gG F rfl rfl rfl rfl (arm_C1 rfl (enters Tryz.func91 rfl rfl) (F.f 6 rfl) (fun va w h1 => c_natural_Valid va (nl xq) xq w h1 (by omega)) (fun _ _ h => by have h' : RetV _ _ _ _ := h; rw [decide_eq_true (Eq.refl (nl xq))] at h'; exact ofV h')).b, ?_⟩
              refine ⟨fun _ _ F => gG F rfl rfl rfl rfl (arm_not rfl (F.f 7 rfl)).b, ?_⟩
              refine ⟨fun _ _ F => gR rfl rfl (arm_pick rfl (F.f 4 rfl) (fun h => by cases h) (fun _ => (F.f 8 rfl))).b, ?_⟩
              refine ⟨fun _ _ F => gR rfl rfl (arm_move (.inl rfl) (F.f 9 rfl)).b, ?_⟩
              refine ⟨fun _ _ F => gG F rfl rfl rfl rfl (arm_fieldF rfl (F.k 1 (Value.pointer (some ⟨w.heap.size, 0, none⟩))) (run_field2 _)).b, ?_⟩
              refine ⟨fun _ _ F => gG F rfl rfl rfl rfl (arm_load2 rfl (F.f 11 rfl) (V0.mono F.below)).b, ?_⟩
              refine ⟨fun _ _ F => gG F rfl rfl rfl rfl (arm_C1 rfl (enters Tryz.func73 rfl rfl) (F.f 12 rfl) (fun va w h1 => c_isZero va xq w h1 (Nat.le_trans bq (by decide))) (fun _ _ h => by have h' : RetV _ _ _ _ := h; rw [H0.out] at h'; exact ofV h')).b, ?_⟩
              refine ⟨fun _ _ F => gR rfl rfl (arm_pick rfl (F.f 10 rfl) (fun h => by cases h) (fun _ => (F.f 13 rfl))).b, ?_⟩
              exact trivial
            intro E' hE gp wp bp G Gs
            obtain rfl : E' = [] := by simpa [subs] using hE
            have e_14 : gp 14 = Value.bool false := G 14 17 _ (by simp) rfl
            clear G Gs hE
            simp only [fValidT11]
            simp only [qA, setD, qZ, qS, e_14]
            refine wpAny_done (by kernel_rfl) ?_ _
            go_wp2_with fail
            go_meet
            case rel => exact ⟨rfl, (V0.mono bp), (hb1.trans (bp.mono hb1.size))⟩
          case rest =>
          clear V0 hb1
          obtain ⟨rfl, V0, hb1⟩ := hcut
          go_upto_region 3 with (fail)
          go_cut [2] (fun s_2 wx => s_2 = Value.bool true ∧ VarQ wx w.heap.size (Fq.mk false xp xq) ∧ Below w.heap.size w wx)
          case first =>
            refine wp_tabGF Tryz.f78 3 (fValidT12 w xp xq Gd) [] (fun _ => false) 11 0 (by kernel_rfl) (by kernel_rfl) (by kernel_rfl) (by kernel_rfl) (by kernel_rfl) (EachX.of_all (fun _ h => by cases h) _) ?_ ?_
            · refine ⟨fun _ _ F => gR rfl rfl (arm_loadF rfl (F.k 1 (Value.pointer (some ⟨w.heap.size, 0, none⟩))) (V0.mono F.below)).b, ?_⟩
              refine ⟨fun _ _ F => gR rfl rfl (arm_C1 rfl (enters Tryz.func76 rfl rfl) (F.f 0 rfl) (fun va w h1 => c_mark va (Fq.mk false xp xq) w h1 (Nat.le_trans bp (by decide)) HZ.out) (fun _ _ h => ofV h)).b, ?_⟩
              refine ⟨fun _ _ F => gR rfl rfl (arm_buildS2 rfl Is.const Is.const).b, ?_⟩
              refine ⟨fun _ _ F => gR rfl rfl (arm_bin rfl (F.f 1 rfl) (F.f 2 rfl) (fun w => guard_neSS _ _ _ _ w) (fun w => run_neSS _ _ _ _ w)).b, ?_⟩
              refine ⟨fun _ _ F => gR rfl rfl (arm_move (.inl rfl) (F.f 3 rfl)).b, ?_⟩
              refine ⟨fun _ _ F => gG F rfl rfl rfl rfl (arm_fieldF rfl (F.k 1 (Value.pointer (some ⟨w.heap.size, 0, none⟩))) (run_field1 _)).b, ?_⟩
              refine ⟨fun _ _ F => gG F rfl rfl rfl rfl (arm_load1 rfl (F.f 5 rfl) (V0.mono F.below)).b, ?_⟩
              refine ⟨fun _ _ F => gG F rfl rfl rfl rfl (arm_fieldF rfl (F.k 1 (Value.pointer (some ⟨w.heap.size, 0, none⟩))) (run_field2 _)).b, ?_⟩
              refine ⟨fun _ _ F => gG F rfl rfl rfl rfl (arm_load2 rfl (F.f 7 rfl) (V0.mono F.below)).b, ?_⟩
              refine ⟨fun _ _ F => gG F rfl rfl rfl rfl (arm_C2 rfl (enters Tryz.func84 rfl rfl) (F.f 6 rfl) (F.f 8 rfl) (fun va vb w h1 h2 => c_natural_Gcd va vb xp xq w h1 h2 (Nat.le_trans bp (by decide)) (Nat.le_trans bq (by decide))) (fun _ _ h => by rw [hGd.out]; exact ofNew h)).b, ?_⟩
              refine ⟨fun _ _ F => gG F rfl rfl rfl rfl (arm_ones rfl (F.f 9 rfl)).b, ?_⟩
              refine ⟨fun _ _ F => gG F rfl rfl rfl rfl (arm_C1 rfl (enters Tryz.func92 rfl rfl) (F.f 10 rfl) (fun va w h1 => c_one1 va Gd w h1 (by omega)) (fun _ _ h => by have h' : RetV _ _ _ _ := h; rw [HG.out] at h'; exact ofV h')).b, ?_⟩
              refine ⟨fun _ _ F => gR rfl rfl (arm_pick rfl (F.f 4 rfl) (fun _ => (F.f 11 rfl)) (fun h => by cases h)).b, ?_⟩
              refine ⟨fun _ _ F => gR rfl rfl (arm_move (.inr rfl) (F.f 12 rfl)).b, ?_⟩
              exact trivial
            intro E' hE gp wp bp G Gs
            obtain rfl : E' = [] := by simpa [subs] using hE
            have e_13 : gp 13 = Value.bool true := G 13 2 _ (by simp) rfl
            clear G Gs hE
            simp only [fValidT12]
            simp only [qA, setD, qZ, qS, e_13]
            refine wpAny_done (by kernel_rfl) ?_ _
            go_wp2_with fail
            go_meet
            case rel => exact ⟨rfl, (V0.mono bp), (hb1.trans (bp.mono hb1.size))⟩
          case rest =>
          clear V0 hb1
          obtain ⟨rfl, V0, hb1⟩ := hcut
          go_wp2
          go_ret
          exact ⟨rfl, hb1⟩
        · have HG : Hid (decide (Gd = 1) = false) := Lib.hid (decide_eq_false hg)
          have hv : (Fq.mk false xp xq).valid = false := decide_eq_false (fun h => hg (by rw [hGd.out]; exact h.2.2))
          rw [hv]
          clear hv hz hg
          obtain ⟨a0, c0, b0, d0, rfl, m0, k0⟩ := boxF ha
          clear ha
          go_enter Tryz.func78, Tryz.ntmps78
          go_upto_region 0 with (fail)
          go_cut [1, 2] (fun s_1 s_2 wx => s_1 = Value.pointer (some ⟨w.heap.size, 0, none⟩) ∧ s_2 = Value.bool false ∧ VarQ wx w.heap.size (Fq.mk false xp xq) ∧ Below w.heap.size w wx)
          case first =>
            go_wp2_with fail
            go_meet
            case rel => exact ⟨rfl, rfl, k0, m0⟩
          case rest =>
          clear m0 k0
          obtain ⟨rfl, rfl, V0, hb1⟩ := hcut
          go_upto_region 1 with (fail)
          go_cut [17] (fun s_17 wx => s_17 = Value.bool false ∧ VarQ wx w.heap.size (Fq.mk false xp xq) ∧ Below w.heap.size w wx)
          case first =>
            refine wp_tabGF Tryz.f78 1 (fValidT13 w xp xq) [] (fun _ => false) 15 0 (by kernel_rfl) (by kernel_rfl) (by kernel_rfl) (by kernel_rfl) (by kernel_rfl) (EachX.of_all (fun _ h => by cases h) _) ?_ ?_
            · refine ⟨fun _ _ F => gR rfl rfl (arm_fieldF rfl (F.k 1 (Value.pointer (some ⟨w.heap.size, 0, none⟩))) (run_field1 _)).b, ?_⟩
              refine ⟨fun _ _ F => gR rfl rfl (arm_load1 rfl (F.f 0 rfl) (V0.mono F.below)).b, ?_⟩
              refine ⟨fun _ _ F => gR rfl rfl (arm_C1 rfl (enters Tryz.func91 rfl rfl) (F.f 1 rfl) (fun va w h1 => c_natural_Valid va (nl xp) xp w h1 (by omega)) (fun _ _ h => by have h' : RetV _ _ _ _ := h; rw [decide_eq_true (Eq.refl (nl xp))] at h'; exact ofV h')).b, ?_⟩
              refine ⟨fun _ _ F => gR rfl rfl (arm_not rfl (F.f 2 rfl)).b, ?_⟩
              refine ⟨fun _ _ F => gR rfl rfl (arm_move (.inl rfl) (F.f 3 rfl)).b, ?_⟩
              refine ⟨fun _ _ F => gG F rfl rfl rfl rfl (arm_fieldF rfl (F.k 1 (Value.pointer (some ⟨w.heap.size, 0, none⟩))) (run_field2 _)).b, ?_⟩
              refine ⟨fun _ _ F => gG F rfl rfl rfl rfl (arm_load2 rfl (F.f 5 rfl) (V0.mono F.below)).b, ?_⟩
              refine ⟨fun _ _ F => gG F rfl rfl rfl rfl (arm_C1 rfl (enters Tryz.func91 rfl rfl) (F.f 6 rfl) (fun va w h1 => c_natural_Valid va (nl xq) xq w h1 (by omega)) (fun _ _ h => by have h' : RetV _ _ _ _ := h; rw [decide_eq_true (Eq.refl (nl xq))] at h'; exact ofV h')).b, ?_⟩
              refine ⟨fun _ _ F => gG F rfl rfl rfl rfl (arm_not rfl (F.f 7 rfl)).b, ?_⟩
              refine ⟨fun _ _ F => gR rfl rfl (arm_pick rfl (F.f 4 rfl) (fun h => by cases h) (fun _ => (F.f 8 rfl))).b, ?_⟩
              refine ⟨fun _ _ F => gR rfl rfl (arm_move (.inl rfl) (F.f 9 rfl)).b, ?_⟩
              refine ⟨fun _ _ F => gG F rfl rfl rfl rfl (arm_fieldF rfl (F.k 1 (Value.pointer (some ⟨w.heap.size, 0, none⟩))) (run_field2 _)).b, ?_⟩
              refine ⟨fun _ _ F => gG F rfl rfl rfl rfl (arm_load2 rfl (F.f 11 rfl) (V0.mono F.below)).b, ?_⟩
              refine ⟨fun _ _ F => gG F rfl rfl rfl rfl (arm_C1 rfl (enters Tryz.func73 rfl rfl) (F.f 12 rfl) (fun va w h1 => c_isZero va xq w h1 (Nat.le_trans bq (by decide))) (fun _ _ h => by have h' : RetV _ _ _ _ := h; rw [H0.out] at h'; exact ofV h')).b, ?_⟩
              refine ⟨fun _ _ F => gR rfl rfl (arm_pick rfl (F.f 10 rfl) (fun h => by cases h) (fun _ => (F.f 13 rfl))).b, ?_⟩
              exact trivial
            intro E' hE gp wp bp G Gs
            obtain rfl : E' = [] := by simpa [subs] using hE
            have e_14 : gp 14 = Value.bool false := G 14 17 _ (by simp) rfl
            clear G Gs hE
            simp only [fValidT13]
            simp only [qA, setD, qZ, qS, e_14]
            refine wpAny_done (by kernel_rfl) ?_ _
            go_wp2_with fail
            go_meet
            case rel => exact ⟨rfl, (V0.mono bp), (hb1.trans (bp.mono hb1.size))⟩
          case rest =>
          clear V0 hb1
          obtain ⟨rfl, V0, hb1⟩ := hcut
          go_upto_region 3 with (fail)
          go_cut [2] (fun s_2 wx => s_2 = Value.bool false ∧ VarQ wx w.heap.size (Fq.mk false xp xq) ∧ Below w.heap.size w wx)
          case first =>
            refine wp_tabGF Tryz.f78 3 (fValidT14 w xp xq Gd) [] (fun _ => false) 11 0 (by kernel_rfl) (by kernel_rfl) (by kernel_rfl) (by kernel_rfl) (by kernel_rfl) (EachX.of_all (fun _ h => by cases h) _) ?_ ?_
            · refine ⟨fun _ _ F => gR rfl rfl (arm_loadF rfl (F.k 1 (Value.pointer (some ⟨w.heap.size, 0, none⟩))) (V0.mono F.below)).b, ?_⟩
              refine ⟨fun _ _ F => gR rfl rfl (arm_C1 rfl (enters Tryz.func76 rfl rfl) (F.f 0 rfl) (fun va w h1 => c_mark va (Fq.mk false xp xq) w h1 (Nat.le_trans bp (by decide)) HZ.out) (fun _ _ h => ofV h)).b, ?_⟩
              refine ⟨fun _ _ F => gR rfl rfl (arm_buildS2 rfl Is.const Is.const).b, ?_⟩
              refine ⟨fun _ _ F => gR rfl rfl (arm_bin rfl (F.f 1 rfl) (F.f 2 rfl) (fun w => guard_neSS _ _ _ _ w) (fun w => run_neSS _ _ _ _ w)).b, ?_⟩
              refine ⟨fun _ _ F => gR rfl rfl (arm_move (.inl rfl) (F.f 3 rfl)).b, ?_⟩
              refine ⟨fun _ _ F => gG F rfl rfl rfl rfl (arm_fieldF rfl (F.k 1 (Value.pointer (some ⟨w.heap.size, 0, none⟩))) (run_field1 _)).b, ?_⟩
              refine ⟨fun _ _ F => gG F rfl rfl rfl rfl (arm_load1 rfl (F.f 5 rfl) (V0.mono F.below)).b, ?_⟩
              refine ⟨fun _ _ F => gG F rfl rfl rfl rfl (arm_fieldF rfl (F.k 1 (Value.pointer (some ⟨w.heap.size, 0, none⟩))) (run_field2 _)).b, ?_⟩
              refine ⟨fun _ _ F => gG F rfl rfl rfl rfl (arm_load2 rfl (F.f 7 rfl) (V0.mono F.below)).b, ?_⟩
              refine ⟨fun _ _ F => gG F rfl rfl rfl rfl (arm_C2 rfl (enters Tryz.func84 rfl rfl) (F.f 6 rfl) (F.f 8 rfl) (fun va vb w h1 h2 => c_natural_Gcd va vb xp xq w h1 h2 (Nat.le_trans bp (by decide)) (Nat.le_trans bq (by decide))) (fun _ _ h => by rw [hGd.out]; exact ofNew h)).b, ?_⟩
              refine ⟨fun _ _ F => gG F rfl rfl rfl rfl (arm_ones rfl (F.f 9 rfl)).b, ?_⟩
              refine ⟨fun _ _ F => gG F rfl rfl rfl rfl (arm_C1 rfl (enters Tryz.func92 rfl rfl) (F.f 10 rfl) (fun va w h1 => c_one1 va Gd w h1 (by omega)) (fun _ _ h => by have h' : RetV _ _ _ _ := h; rw [HG.out] at h'; exact ofV h')).b, ?_⟩
              refine ⟨fun _ _ F => gR rfl rfl (arm_pick rfl (F.f 4 rfl) (fun _ => (F.f 11 rfl)) (fun h => by cases h)).b, ?_⟩
              refine ⟨fun _ _ F => gR rfl rfl (arm_move (.inr rfl) (F.f 12 rfl)).b, ?_⟩
              exact trivial
            intro E' hE gp wp bp G Gs
            obtain rfl : E' = [] := by simpa [subs] using hE
            have e_13 : gp 13 = Value.bool false := G 13 2 _ (by simp) rfl
            clear G Gs hE
            simp only [fValidT14]
            simp only [qA, setD, qZ, qS, e_13]
            refine wpAny_done (by kernel_rfl) ?_ _
            go_wp2_with fail
            go_meet
            case rel => exact ⟨rfl, (V0.mono bp), (hb1.trans (bp.mono hb1.size))⟩
          case rest =>
          clear V0 hb1
          obtain ⟨rfl, V0, hb1⟩ := hcut
          go_wp2
          go_ret
          exact ⟨rfl, hb1⟩
end Go.Proofs.YthefidbgjgfeiaaGreat
namespace Go.Proofs.YthefidbgjgfeiaaGreat
set_option linter.unusedSimpArgs false
set_option linter.unusedVariables false
set_option maxRecDepth 100000
open Go.RowKit
/-- The first slash stands at i. -/
def slashAt (s : ByteArray) (i : Nat) : Prop := i < s.size ∧ by' s i = 47 ∧ ∀ j, j < i → by' s j ≠ 47
def noSlash (s : ByteArray) : Prop := ∀ j, j < s.size → by' s j ≠ 47
end Go.Proofs.YthefidbgjgfeiaaGreat
namespace Go.Proofs.YthefidbgjgfeiaaGreat
set_option linter.unusedSimpArgs false
set_option linter.unusedVariables false
set_option maxRecDepth 100000
open Go.RowKit
/-- How a text falls into sign, numerator, slash, denominator. -/
structure Pieces (s t : ByteArray) (B F : Bool) (a b : ByteArray) : Prop where
  sign : decide (0 < s.size ∧ by' s 0 = 45) = B
  rest : t = if B then s.extract 1 s.size else s
  hit : F = true → ∃ i, slashAt t i ∧ a = t.extract 0 i ∧ b = t.extract (i + 1) t.size
  miss : F = false → noSlash t ∧ a = t ∧ b = { data := #[] }
/-- The denominator; whether a fraction of these parts is accepted. -/
def parseQ (F : Bool) (N : Nat) : Nat := if F then N else 1
def parseV (B F : Bool) (M N : Nat) : Bool := if F then !decide (N = 1) && (Fq.mk B M N).valid else (Fq.mk B M 1).valid
/-- What a text is read as. -/
inductive FP (s : ByteArray) : Fq → Int → Prop
  | num {t B F a b M c} (h : Pieces s t B F a b) (ha : ParseIs a M c) (h0 : c ≠ 0) : FP s .zero c
  | den {t B a b M N c} (h : Pieces s t B true a b) (ha : ParseIs a M 0) (hb : ParseIs b N c) (h0 : c ≠ 0) : FP s .zero c
  | bad {t B F a b M N} (h : Pieces s t B F a b) (ha : ParseIs a M 0) (hb : F = true → ParseIs b N 0) (hv : parseV B F M N = false) : FP s .zero 2
  | good {t B F a b M N} (h : Pieces s t B F a b) (ha : ParseIs a M 0) (hb : F = true → ParseIs b N 0) (hv : parseV B F M N = true) : FP s ⟨B, M, parseQ F N⟩ 0
end Go.Proofs.YthefidbgjgfeiaaGreat
namespace Go.Proofs.YthefidbgjgfeiaaGreat
set_option linter.unusedSimpArgs false
set_option linter.unusedVariables false
set_option maxRecDepth 100000
open Go Go.Proofs
/-- The number that a fraction stands for. -/
def Fq.sg (s : Bool) (m : Nat) : Int := if s then -(m : Int) else m
def Fq.v (x : Fq) : Rat := mkRat (Fq.sg x.s x.p) x.q
theorem low_v {s : Bool} {m n : Nat} (h : n ≠ 0) : (Fq.low s m n).v = mkRat (Fq.sg s m) n := by
  unfold Fq.v Fq.low
  simp only
  have hg : 0 < Nat.gcd m n := Nat.gcd_pos_of_pos_right _ (Nat.pos_of_ne_zero h)
  have h1 : Nat.gcd m n * lowP m n = m := Nat.mul_div_cancel' (Nat.gcd_dvd_left _ _)
  have h2 : Nat.gcd m n * lowQ m n = n := Nat.mul_div_cancel' (Nat.gcd_dvd_right _ _)
  have h3 : lowQ m n ≠ 0 := by intro h3; rw [h3, Nat.mul_zero] at h2; exact h h2.symm
  rw [Rat.mkRat_eq_iff h3 h]
  have hs : Fq.sg (lowS s m) (lowP m n) = Fq.sg s (lowP m n) := by
    unfold lowS Fq.sg
    by_cases hm : m = 0
    · subst hm; simp [lowP]
    · simp [hm]
  rw [hs]
  generalize hP : lowP m n = P at *
  generalize hQ : lowQ m n = R at *
  generalize Nat.gcd m n = g at *
  subst h1; subst h2
  unfold Fq.sg
  cases s <;> simp only [Bool.false_eq_true, if_true, if_false] <;> grind
theorem low_valid {s : Bool} {m n : Nat} (h : n ≠ 0) : (Fq.low s m n).valid = true := by
  unfold Fq.valid
  have hg : 0 < Nat.gcd m n := Nat.gcd_pos_of_pos_right _ (Nat.pos_of_ne_zero h)
  have h1 : Nat.gcd m n * lowP m n = m := Nat.mul_div_cancel' (Nat.gcd_dvd_left _ _)
  have h2 : Nat.gcd m n * lowQ m n = n := Nat.mul_div_cancel' (Nat.gcd_dvd_right _ _)
  refine decide_eq_true ⟨?_, ?_, ?_⟩
  · show lowQ m n ≠ 0
    intro h3; rw [h3, Nat.mul_zero] at h2; exact h h2.symm
  · show ¬(lowS s m = true ∧ lowP m n = 0)
    rintro ⟨h3, h4⟩
    rw [h4, Nat.mul_zero] at h1
    rw [← h1] at h3; simp [lowS] at h3
  · exact Nat.coprime_div_gcd_div_gcd hg
theorem Fq.valid.n {x : Fq} (h : x.valid = true) : x.q ≠ 0 := (of_decide_eq_true h).1
theorem Fq.valid.s {x : Fq} (h : x.valid = true) : ¬(x.s = true ∧ x.p = 0) := (of_decide_eq_true h).2.1
theorem Fq.valid.g {x : Fq} (h : x.valid = true) : Nat.gcd x.p x.q = 1 := (of_decide_eq_true h).2.2
theorem sg_abs (s : Bool) (m : Nat) : (Fq.sg s m).natAbs = m := by unfold Fq.sg; cases s <;> simp
theorem sg_neg {s : Bool} {m : Nat} (h : ¬(s = true ∧ m = 0)) : decide (Fq.sg s m < 0) = s := by
  unfold Fq.sg
  cases s
  · simp
  · simp at h ⊢; omega
theorem v_num {x : Fq} (h : x.valid = true) : x.v.num = Fq.sg x.s x.p ∧ x.v.den = x.q := by
  have hn := Fq.valid.n h
  have hc : (Fq.sg x.s x.p).natAbs.Coprime x.q := by rw [sg_abs]; exact Fq.valid.g h
  have e : x.v = Rat.mk' (Fq.sg x.s x.p) x.q hn hc := (Rat.mk_eq_mkRat _ _ hn hc).symm
  rw [e]; exact ⟨rfl, rfl⟩
/-- Valid fractions of one value are one. -/
theorem v_inj {x y : Fq} (hx : x.valid = true) (hy : y.valid = true) (h : x.v = y.v) : x = y := by
  obtain ⟨a1, a2⟩ := v_num hx
  obtain ⟨b1, b2⟩ := v_num hy
  rw [h] at a1 a2
  have e1 : Fq.sg x.s x.p = Fq.sg y.s y.p := a1.symm.trans b1
  have ep : x.p = y.p := by rw [← sg_abs x.s x.p, e1, sg_abs]
  have es : x.s = y.s := by rw [← sg_neg (Fq.valid.s hx), e1, sg_neg (Fq.valid.s hy)]
  have eq : x.q = y.q := a2.symm.trans b2
  cases x; cases y; simp only at *; subst ep; subst es; subst eq; rfl
theorem sg_add (s s' : Bool) (X Y : Nat) : Fq.sg (addG s s' X Y) (addM s s' X Y) = Fq.sg s X + Fq.sg s' Y := by
  unfold Fq.sg addG addM
  by_cases h : s = s'
  · subst h; simp only [if_true]; cases s <;> simp <;> omega
  · simp only [h, if_false]
    by_cases hl : Y ≤ X
    · simp only [hl, if_true]; cases s <;> cases s' <;> simp at h ⊢ <;> omega
    · simp only [hl, if_false]; cases s <;> cases s' <;> simp at h ⊢ <;> omega
theorem sg_mul (s s' : Bool) (X Y : Nat) : Fq.sg (s != s') (X * Y) = Fq.sg s X * Fq.sg s' Y := by
  unfold Fq.sg
  cases s <;> cases s' <;> simp <;> grind
theorem sg_mulN (s : Bool) (X Y : Nat) : Fq.sg s (X * Y) = Fq.sg s X * (Y : Int) := by
  unfold Fq.sg
  cases s <;> simp <;> grind
theorem v_add {x y : Fq} (hx : x.q ≠ 0) (hy : y.q ≠ 0) : (x.add y).v = x.v + y.v := by
  unfold Fq.add
  rw [low_v (Nat.mul_ne_zero hx hy), sg_add, sg_mulN, sg_mulN]
  unfold Fq.v
  rw [Rat.mkRat_add_mkRat _ _ hx hy]
theorem v_mul {x y : Fq} (hx : x.q ≠ 0) (hy : y.q ≠ 0) : (x.mul y).v = x.v * y.v := by
  unfold Fq.mul
  rw [low_v (Nat.mul_ne_zero hx hy), sg_mul]
  unfold Fq.v
  rw [Rat.mkRat_mul_mkRat]
theorem v_neg {x : Fq} : x.neg.v = -x.v := by
  unfold Fq.neg Fq.v
  simp only
  rw [Rat.neg_mkRat]
  congr 1
  unfold Fq.sg lowS
  by_cases h : x.p = 0
  · rw [h]; simp
  · simp only [h, decide_false, Bool.not_false, Bool.and_true]; cases x.s <;> simp
theorem neg_valid {x : Fq} (h : x.valid = true) : x.neg.valid = true := by
  have h1 := Fq.valid.n h
  have h2 := Fq.valid.g h
  refine decide_eq_true ⟨h1, ?_, h2⟩
  show ¬(lowS (!x.s) x.p = true ∧ x.p = 0)
  rintro ⟨h1, h2⟩; rw [h2] at h1; simp [lowS] at h1
theorem v_sub {x y : Fq} (hx : x.q ≠ 0) (hy : y.q ≠ 0) : (x.sub y).v = x.v - y.v := by
  unfold Fq.sub
  rw [v_add hx (show y.neg.q ≠ 0 from hy), v_neg, Rat.sub_eq_add_neg]
theorem v_eq0 {x : Fq} (hx : x.q ≠ 0) : x.v = 0 ↔ x.p = 0 := by
  unfold Fq.v
  rw [Rat.mkRat_eq_zero hx]
  have := sg_abs x.s x.p
  constructor <;> intro h
  · rw [h] at this; exact this.symm
  · unfold Fq.sg; rw [h]; simp
theorem v_div {x y : Fq} (hx : x.q ≠ 0) (hy : y.q ≠ 0) (h0 : y.p ≠ 0) : (x.div y).v = x.v / y.v := by
  have hne : y.v ≠ 0 := fun h => h0 ((v_eq0 hy).1 h)
  have hm : (x.div y).v * y.v = x.v := by
    unfold Fq.div
    rw [low_v (Nat.mul_ne_zero hx h0)]
    unfold Fq.v
    rw [Rat.mkRat_mul_mkRat, Rat.mkRat_eq_iff (Nat.mul_ne_zero (Nat.mul_ne_zero hx h0) hy) hx]
    unfold Fq.sg
    cases x.s <;> cases y.s <;> simp <;> grind
  rw [← hm, Rat.div_def, Rat.mul_assoc, Rat.mul_inv_cancel _ hne, Rat.mul_one]
theorem v_ofInt (n : Int) : (Fq.ofInt n).v = (n : Rat) := by
  unfold Fq.ofInt Fq.v
  simp only
  rw [Rat.mkRat_one]
  congr 1
  unfold Fq.sg
  by_cases h : n < 0
  · simp [h]; omega
  · simp [h]; omega
theorem ofInt_valid (n : Int) : (Fq.ofInt n).valid = true := by
  refine decide_eq_true ⟨Nat.one_ne_zero, ?_, Nat.gcd_one_right _⟩
  show ¬(decide (n < 0) = true ∧ n.natAbs = 0)
  rintro ⟨h1, h2⟩; have := of_decide_eq_true h1; omega
theorem sgn_cases {x : Fq} (hx : x.valid = true) : (x.v < 0 ∧ x.sgn = -1) ∨ (x.v = 0 ∧ x.sgn = 0) ∨ (0 < x.v ∧ x.sgn = 1) := by
  have hn := (v_num hx).1
  have h0 := v_eq0 (Fq.valid.n hx)
  have hs := Fq.valid.s hx
  by_cases hp : x.p = 0
  · exact Or.inr (Or.inl ⟨h0.2 hp, by unfold Fq.sgn; rw [if_pos hp]⟩)
  · have hne : x.v ≠ 0 := fun h => hp (h0.1 h)
    rcases Bool.eq_false_or_eq_true x.s with h | h
    · refine Or.inl ⟨?_, by unfold Fq.sgn; rw [if_neg hp, if_pos h]⟩
      have h1 : ¬ (0 ≤ x.v) := by rw [← Rat.num_nonneg, hn, h]; unfold Fq.sg; simp; omega
      exact Rat.not_le.1 h1
    · refine Or.inr (Or.inr ⟨?_, by unfold Fq.sgn; rw [if_neg hp, h]; rfl⟩)
      have h1 : 0 ≤ x.v := by rw [← Rat.num_nonneg, hn, h]; unfold Fq.sg; simp
      grind
theorem add_valid {x y : Fq} (hx : x.valid = true) (hy : y.valid = true) : (x.add y).valid = true := low_valid (Nat.mul_ne_zero (Fq.valid.n hx) (Fq.valid.n hy))
theorem mul_valid {x y : Fq} (hx : x.valid = true) (hy : y.valid = true) : (x.mul y).valid = true := low_valid (Nat.mul_ne_zero (Fq.valid.n hx) (Fq.valid.n hy))
theorem sub_valid {x y : Fq} (hx : x.valid = true) (hy : y.valid = true) : (x.sub y).valid = true := add_valid hx (neg_valid hy)
theorem div_valid {x y : Fq} (hx : x.valid = true) (h0 : y.p ≠ 0) : (x.div y).valid = true := low_valid (Nat.mul_ne_zero (Fq.valid.n hx) h0)
theorem v_a {x y : Fq} (hx : x.valid = true) (hy : y.valid = true) : (x.add y).v = x.v + y.v := v_add (Fq.valid.n hx) (Fq.valid.n hy)
theorem v_m {x y : Fq} (hx : x.valid = true) (hy : y.valid = true) : (x.mul y).v = x.v * y.v := v_mul (Fq.valid.n hx) (Fq.valid.n hy)
theorem v_s {x y : Fq} (hx : x.valid = true) (hy : y.valid = true) : (x.sub y).v = x.v - y.v := v_sub (Fq.valid.n hx) (Fq.valid.n hy)
theorem cmp_cases {x y : Fq} (hx : x.valid = true) (hy : y.valid = true) : (x.v < y.v ∧ x.cmp y = -1) ∨ (x.v = y.v ∧ x.cmp y = 0) ∨ (y.v < x.v ∧ x.cmp y = 1) := by
  unfold Fq.cmp
  rcases sgn_cases (sub_valid hx hy) with ⟨h1, h2⟩ | ⟨h1, h2⟩ | ⟨h1, h2⟩ <;> rw [v_s hx hy] at h1
  · exact Or.inl ⟨by grind, h2⟩
  · exact Or.inr (Or.inl ⟨by grind, h2⟩)
  · exact Or.inr (Or.inr ⟨by grind, h2⟩)
section
variable {a b c t : Fq} (ha : a.valid = true) (hb : b.valid = true) (hc : c.valid = true) (ht : t.valid = true)
include ha hb
include hc
end
section
variable {a b t : Fq} (ha : a.valid = true) (hb : b.valid = true) (ht : t.valid = true)
include ha
include hb
theorem o_zero : a.cmp b = 0 ↔ a = b := by
  constructor
  · intro h; rcases cmp_cases ha hb with ⟨p1, p2⟩ | ⟨p1, p2⟩ | ⟨p1, p2⟩ <;> first | omega | exact v_inj ha hb p1
  · rintro rfl; rcases cmp_cases ha hb with ⟨p1, p2⟩ | ⟨p1, p2⟩ | ⟨p1, p2⟩ <;> first | exact p2 | grind
include ht
end
end Go.Proofs.YthefidbgjgfeiaaGreat
namespace Go.Proofs.YthefidbgjgfeiaaGreat
set_option linter.unusedSimpArgs false
set_option linter.unusedVariables false
set_option maxRecDepth 100000
open Go.RowKit
/-- A vector of fractions. -/
structure Vq where
  x : Fq
  y : Fq
  z : Fq
def Vq.add (a b : Vq) : Vq := ⟨a.x.add b.x, a.y.add b.y, a.z.add b.z⟩
def Vq.sub (a b : Vq) : Vq := ⟨a.x.sub b.x, a.y.sub b.y, a.z.sub b.z⟩
def Vq.scale (a : Vq) (k : Fq) : Vq := ⟨a.x.mul k, a.y.mul k, a.z.mul k⟩
def Vq.dot (a b : Vq) : Fq := (a.x.mul b.x).add ((a.y.mul b.y).add (a.z.mul b.z))
def Vq.cross (a b : Vq) : Vq := ⟨(a.y.mul b.z).sub (a.z.mul b.y), (a.z.mul b.x).sub (a.x.mul b.z), (a.x.mul b.y).sub (a.y.mul b.x)⟩
def Vq.of (x y z : Int) : Vq := ⟨.ofInt x, .ofInt y, .ofInt z⟩
structure Vq.good (a : Vq) : Prop where
  x : a.x.valid = true
  y : a.y.valid = true
  z : a.z.valid = true
section
variable {a b c : Vq} {k t : Fq}
theorem Vq.good.add (ha : a.good) (hb : b.good) : (a.add b).good := ⟨add_valid ha.x hb.x, add_valid ha.y hb.y, add_valid ha.z hb.z⟩
theorem Vq.good.sub (ha : a.good) (hb : b.good) : (a.sub b).good := ⟨sub_valid ha.x hb.x, sub_valid ha.y hb.y, sub_valid ha.z hb.z⟩
theorem Vq.good.scale (ha : a.good) (hk : k.valid = true) : (a.scale k).good := ⟨mul_valid ha.x hk, mul_valid ha.y hk, mul_valid ha.z hk⟩
theorem Vq.good.cross (ha : a.good) (hb : b.good) : (a.cross b).good := ⟨sub_valid (mul_valid ha.y hb.z) (mul_valid ha.z hb.y), sub_valid (mul_valid ha.z hb.x) (mul_valid ha.x hb.z), sub_valid (mul_valid ha.x hb.y) (mul_valid ha.y hb.x)⟩
theorem Vq.good.of (x y z : Int) : (Vq.of x y z).good := ⟨ofInt_valid x, ofInt_valid y, ofInt_valid z⟩
theorem dot_valid (ha : a.good) (hb : b.good) : (a.dot b).valid = true := add_valid (mul_valid ha.x hb.x) (add_valid (mul_valid ha.y hb.y) (mul_valid ha.z hb.z))
theorem dot_v (ha : a.good) (hb : b.good) : (a.dot b).v = a.x.v * b.x.v + (a.y.v * b.y.v + a.z.v * b.z.v) := by
  unfold Vq.dot
  rw [v_a (mul_valid ha.x hb.x) (add_valid (mul_valid ha.y hb.y) (mul_valid ha.z hb.z)), v_a (mul_valid ha.y hb.y) (mul_valid ha.z hb.z), v_m ha.x hb.x, v_m ha.y hb.y, v_m ha.z hb.z]
theorem add_v (ha : a.good) (hb : b.good) : (a.add b).x.v = a.x.v + b.x.v ∧ (a.add b).y.v = a.y.v + b.y.v ∧ (a.add b).z.v = a.z.v + b.z.v := ⟨v_a ha.x hb.x, v_a ha.y hb.y, v_a ha.z hb.z⟩
theorem scale_v (ha : a.good) (hk : k.valid = true) : (a.scale k).x.v = a.x.v * k.v ∧ (a.scale k).y.v = a.y.v * k.v ∧ (a.scale k).z.v = a.z.v * k.v := ⟨v_m ha.x hk, v_m ha.y hk, v_m ha.z hk⟩
theorem cross_v (ha : a.good) (hb : b.good) : (a.cross b).x.v = a.y.v * b.z.v - a.z.v * b.y.v ∧ (a.cross b).y.v = a.z.v * b.x.v - a.x.v * b.z.v ∧ (a.cross b).z.v = a.x.v * b.y.v - a.y.v * b.x.v := by
  unfold Vq.cross
  refine ⟨?_, ?_, ?_⟩
  · rw [v_s (mul_valid ha.y hb.z) (mul_valid ha.z hb.y), v_m ha.y hb.z, v_m ha.z hb.y]
  · rw [v_s (mul_valid ha.z hb.x) (mul_valid ha.x hb.z), v_m ha.z hb.x, v_m ha.x hb.z]
  · rw [v_s (mul_valid ha.x hb.y) (mul_valid ha.y hb.x), v_m ha.x hb.y, v_m ha.y hb.x]
theorem Vq.inj (ha : a.good) (hb : b.good) (hx : a.x.v = b.x.v) (hy : a.y.v = b.y.v) (hz : a.z.v = b.z.v) : a = b := by
  have e1 := v_inj ha.x hb.x hx
  have e2 := v_inj ha.y hb.y hy
  have e3 := v_inj ha.z hb.z hz
  cases a; cases b; simp only at e1 e2 e3; subst e1; subst e2; subst e3; rfl
-- a vector space
-- products
-- on the way
end
end Go.Proofs.YthefidbgjgfeiaaGreat
namespace Go.Proofs.YthefidbgjgfeiaaGreat
set_option linter.unusedSimpArgs false
set_option linter.unusedVariables false
set_option maxRecDepth 100000
open Go.RowKit
/-- A quaternion, a vector of rational numbers. -/
@[ext] structure QR where
  w : Rat
  x : Rat
  y : Rat
  z : Rat
@[ext] structure VR where
  x : Rat
  y : Rat
  z : Rat
def QR.nrm (a : QR) : Rat := a.w * a.w + (a.x * a.x + (a.y * a.y + a.z * a.z))
def QR.mul (p q : QR) : QR := ⟨p.w * q.w - (p.x * q.x + (p.y * q.y + p.z * q.z)), q.x * p.w + p.x * q.w + (p.y * q.z - p.z * q.y), q.y * p.w + p.y * q.w + (p.z * q.x - p.x * q.z), q.z * p.w + p.z * q.w + (p.x * q.y - p.y * q.x)⟩
def QR.conj (a : QR) : QR := ⟨a.w, -a.x, -a.y, -a.z⟩
def QR.smul (k : Rat) (a : QR) : QR := ⟨k * a.w, k * a.x, k * a.y, k * a.z⟩
def QR.one : QR := ⟨1, 0, 0, 0⟩
/-- Equal up to a factor. -/
def Sim (a b : QR) : Prop := ∃ k : Rat, k ≠ 0 ∧ b = QR.smul k a
/-- The image, times the square of the length. -/
def QR.rot (q : QR) (v : VR) : VR :=
  ⟨(q.w * q.w - (q.x * q.x + (q.y * q.y + q.z * q.z))) * v.x + (2 * (q.x * v.x + (q.y * v.y + q.z * v.z))) * q.x + (2 * q.w) * (q.y * v.z - q.z * v.y),
   (q.w * q.w - (q.x * q.x + (q.y * q.y + q.z * q.z))) * v.y + (2 * (q.x * v.x + (q.y * v.y + q.z * v.z))) * q.y + (2 * q.w) * (q.z * v.x - q.x * v.z),
   (q.w * q.w - (q.x * q.x + (q.y * q.y + q.z * q.z))) * v.z + (2 * (q.x * v.x + (q.y * v.y + q.z * v.z))) * q.z + (2 * q.w) * (q.x * v.y - q.y * v.x)⟩
def VR.smul (k : Rat) (v : VR) : VR := ⟨k * v.x, k * v.y, k * v.z⟩
def VR.dot (a b : VR) : Rat := a.x * b.x + (a.y * b.y + a.z * b.z)
def QR.app (q : QR) (v : VR) : VR := (q.rot v).smul (q.nrm)⁻¹
theorem sq_nonneg' (r : Rat) : 0 ≤ r * r := by
  rcases Rat.le_total (a := 0) (b := r) with h | h
  · exact Rat.mul_nonneg h h
  · have := Rat.mul_nonneg (show 0 ≤ -r by grind) (show 0 ≤ -r by grind); grind
theorem nrm_zero {a : QR} : a.nrm = 0 ↔ a.w = 0 ∧ a.x = 0 ∧ a.y = 0 ∧ a.z = 0 := by
  unfold QR.nrm
  have h1 := sq_nonneg' a.w
  have h2 := sq_nonneg' a.x
  have h3 := sq_nonneg' a.y
  have h4 := sq_nonneg' a.z
  constructor
  · intro h
    have e1 : a.w * a.w = 0 := by grind
    have e2 : a.x * a.x = 0 := by grind
    have e3 : a.y * a.y = 0 := by grind
    have e4 : a.z * a.z = 0 := by grind
    exact ⟨by grind, by grind, by grind, by grind⟩
  · rintro ⟨e1, e2, e3, e4⟩
    rw [e1, e2, e3, e4]; grind
theorem nrm_mul (p q : QR) : (p.mul q).nrm = p.nrm * q.nrm := by
  unfold QR.nrm QR.mul; grind
theorem nrm_conj (p : QR) : p.conj.nrm = p.nrm := by unfold QR.nrm QR.conj; grind
theorem nrm_smul (k : Rat) (p : QR) : (QR.smul k p).nrm = k * k * p.nrm := by unfold QR.nrm QR.smul; grind
theorem mul_ne {a b : Rat} (ha : a ≠ 0) (hb : b ≠ 0) : a * b ≠ 0 := fun h => by rcases Rat.mul_eq_zero.1 h with h | h; exact ha h; exact hb h
theorem Sim.refl (a : QR) : Sim a a := ⟨1, by decide, by unfold QR.smul; ext <;> simp only <;> grind⟩
theorem Sim.symm {a b : QR} (h : Sim a b) : Sim b a := by
  obtain ⟨k, hk, rfl⟩ := h
  refine ⟨k⁻¹, fun h => by have h1 := Rat.inv_mul_cancel k hk; rw [h] at h1; grind, ?_⟩
  have := Rat.inv_mul_cancel k hk
  unfold QR.smul; ext <;> simp only <;> grind
theorem Sim.trans {a b c : QR} (h : Sim a b) (h2 : Sim b c) : Sim a c := by
  obtain ⟨k, hk, rfl⟩ := h
  obtain ⟨l, hl, rfl⟩ := h2
  exact ⟨l * k, mul_ne hl hk, by unfold QR.smul; ext <;> simp only <;> grind⟩
theorem Sim.mul {a a' b b' : QR} (h : Sim a a') (h2 : Sim b b') : Sim (a.mul b) (a'.mul b') := by
  obtain ⟨k, hk, rfl⟩ := h
  obtain ⟨l, hl, rfl⟩ := h2
  exact ⟨k * l, mul_ne hk hl, by unfold QR.smul QR.mul; ext <;> simp only <;> grind⟩
theorem Sim.conj {a b : QR} (h : Sim a b) : Sim a.conj b.conj := by
  obtain ⟨k, hk, rfl⟩ := h
  exact ⟨k, hk, by unfold QR.smul QR.conj; ext <;> simp only <;> grind⟩
theorem Sim.nrm {a b : QR} (h : Sim a b) (ha : a.nrm ≠ 0) : b.nrm ≠ 0 := by
  obtain ⟨k, hk, rfl⟩ := h
  rw [nrm_smul]; exact mul_ne (mul_ne hk hk) ha
end Go.Proofs.YthefidbgjgfeiaaGreat
