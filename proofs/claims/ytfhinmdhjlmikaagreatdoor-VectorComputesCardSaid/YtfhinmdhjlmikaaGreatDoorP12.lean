/- Valid, of package fraction and of the reference. -/
import Derived.Test.YtfhinmdhjlmikaaGreatDoorP11
namespace Go.Proofs.YtfhinmdhjlmikaaGreatDoor
set_option linter.unusedSimpArgs false
set_option linter.unusedVariables false
set_option maxRecDepth 100000
open Go.RowKit
/-- A fraction of rows: leading zeros allowed. -/
def IsFR (w : World) (v : Value) (s : Bool) (L p N q : Nat) : Prop := ∃ a c b d, v = .agg #[.bool s, .slice a L c, .slice b N d] ∧ IsR w (.agg #[.slice a L c]) L p ∧ IsR w (.agg #[.slice b N d]) N q
theorem IsFR.mono {w w' : World} {v : Value} {s : Bool} {L p N q : Nat} (h : IsFR w v s L p N q) (hb : Below w.heap.size w w') : IsFR w' v s L p N q := by
  obtain ⟨a, c, b, d, rfl, h1, h2⟩ := h; exact ⟨a, c, b, d, rfl, h1.mono hb, h2.mono hb⟩
theorem IsFR.isQ {w : World} {v : Value} {s : Bool} {L p N q : Nat} (h : IsFR w v s L p N q) (hL : nl p = L) (hN : nl q = N) : IsQ w v ⟨s, p, q⟩ := by
  subst hL; subst hN; exact h
def VarFR (w : World) (g : Nat) (s : Bool) (L p N q : Nat) : Prop := ∃ a c b d, VarFB w g s a L c b N d ∧ IsR w (.agg #[.slice a L c]) L p ∧ IsR w (.agg #[.slice b N d]) N q
theorem VarFR.lt {w : World} {g L p N q : Nat} {s : Bool} (h : VarFR w g s L p N q) : g < w.heap.size := by obtain ⟨_, _, _, _, h, _⟩ := h; exact h.lt
theorem VarFR.mono {w w' : World} {g L p N q : Nat} {s : Bool} (h : VarFR w g s L p N q) (hb : Below w.heap.size w w') : VarFR w' g s L p N q := by
  obtain ⟨a, c, b, d, h0, h1, h2⟩ := h; exact ⟨a, c, b, d, h0.mono hb h0.lt, h1.mono hb, h2.mono hb⟩
theorem VarFR.upd {w w' : World} {g g' L p N q : Nat} {s : Bool} (h : VarFR w g' s L p N q) (o : Own w g) (u : Upd w g w') (hn : g' ≠ g) : VarFR w' g' s L p N q := by
  obtain ⟨x, cx, y, cy, h0, h1, h2⟩ := h; exact ⟨x, cx, y, cy, h0.upd o u hn, h1.upd o u, h2.upd o u⟩
theorem boxR {w : World} {v : Value} {s : Bool} {L p N q : Nat} (h : IsFR w v s L p N q) : ∃ a c b d, v = .agg #[.bool s, .slice a L c, .slice b N d] ∧
    Below w.heap.size w (w.alloc (.cells #[.bool s, .slice a L c, .slice b N d] 26)) ∧ VarFR (w.alloc (.cells #[.bool s, .slice a L c, .slice b N d] 26)) w.heap.size s L p N q := by
  obtain ⟨a, c, b, d, rfl, h1, h2⟩ := h
  have hb := bel1 w (.cells #[.bool s, .slice a L c, .slice b N d] 26)
  exact ⟨a, c, b, d, rfl, hb, a, c, b, d, VarFB.made w s a L c b N d, h1.mono hb, h2.mono hb⟩
section
variable {Q : Exit → Act → World → Prop} {o : Oper} {a : Act} {w : World} {x y : Operand} {g L p N q m : Nat} {s : Bool} {tt : Array TypeId}
theorem arm_loadR1 (ho : o.op = .load 24 x) (hx : Is a w x (.val (.pointer (some ⟨g, 1, none⟩)))) (h : VarFR w g s L p N q) : Arm Tryz.prog Q o a w (.raw L p) := by
  obtain ⟨b, c, b', d, h, h1, h2⟩ := h
  have hx' : a.eval x = .pointer (some ⟨g, 1, none⟩) := hx
  refine arm_run _ ?_ h1
  unfold execOp
  rw [ho]
  simp only [hx', Sem.run_bind, run_loadN _ _ _ _ _ w h.cell1, Result.andThen, Sem.run_pure]
theorem arm_loadR2 (ho : o.op = .load 24 x) (hx : Is a w x (.val (.pointer (some ⟨g, 2, none⟩)))) (h : VarFR w g s L p N q) : Arm Tryz.prog Q o a w (.raw N q) := by
  obtain ⟨b, c, b', d, h, h1, h2⟩ := h
  have hx' : a.eval x = .pointer (some ⟨g, 2, none⟩) := hx
  refine arm_run _ ?_ h2
  unfold execOp
  rw [ho]
  simp only [hx', Sem.run_bind, run_loadN _ _ _ _ _ w h.cell2, Result.andThen, Sem.run_pure]
/-- A slice of one number. -/
def Sp.ones (m : Nat) : Sp := ⟨fun w v => ∃ g, v = .slice (some ⟨g, 0, none⟩) 1 1 ∧ VarI w g m, fun _ _ _ h hb => by obtain ⟨g, rfl, h⟩ := h; exact ⟨g, rfl, h.mono hb⟩⟩
theorem run_buildSlice1 (s : Option Addr) (L c : Nat) (w : World) : (Instr.buildSlice 100 1 #[(0, .agg #[.slice s L c])]).run Tryz.prog w = .ok (.slice (some ⟨w.heap.size, 0, none⟩) 1 1) (w.alloc (.cells #[.slice s L c] 24)) := by
  go_simp
theorem arm_ones (ho : o.op = .buildSlice 100 1 #[(0, x)]) (hx : Is a w x (.nat m)) : Arm Tryz.prog Q o a w (.ones m) := by
  obtain ⟨ax, cx, ex⟩ := IsN.shape hx
  have hx' : IsN w (a.eval x) m := hx
  rw [ex] at hx'
  intro K hK
  unfold Oper.wp execOp
  rw [ho]
  simp only [List.map_toArray, List.map_cons, List.map_nil, ex, Sem.run_bind, run_buildSlice1, Result.andThen, Sem.run_pure, Oper.upon_value]
  have hb := bel1 w (.cells #[.slice ax (nl m) cx] 24)
  exact hK _ _ ⟨_, rfl, ax, cx, VarB.made w ax (nl m) cx, hx'.mono hb⟩ hb
end
theorem c_one1 (va : Value) (m : Nat) (w : World) (h : (Sp.ones m).p w va) (hm : nl m ≤ 1000000000000) : Calls Tryz.prog 74 #[va] w fun e w' => RetV w (.bool (decide (m = 1))) e w' := by
  obtain ⟨g, rfl, v⟩ := h; exact c_one g m w v hm
/-- Which fractions are valid. -/
def Fq.valid (x : Fq) : Bool := decide (x.q ≠ 0 ∧ ¬(x.s = true ∧ x.p = 0) ∧ Nat.gcd x.p x.q = 1)
def fValidT0 (w : World) (xp : Nat) (xq : Nat) : List (Nat × Tmp × Sp) :=
   [(0, 3, .val (Value.pointer (some ⟨w.heap.size, 1, none⟩))),
    (1, 4, .nat (xp)),
    (2, 5, .val (Value.bool true)),
    (3, 6, .val (Value.bool false)),
    (4, 7, .val (Value.bool false)),
    (5, 8, .val (Value.pointer (some ⟨w.heap.size, 2, none⟩))),
    (6, 9, .nat (xq)),
    (7, 10, .val (Value.bool true)),
    (8, 11, .val (Value.bool false)),
    (9, 12, .val (Value.bool false)),
    (10, 13, .val (Value.bool false)),
    (11, 14, .val (Value.pointer (some ⟨w.heap.size, 2, none⟩))),
    (12, 15, .nat (xq)),
    (13, 16, .val (Value.bool true)),
    (14, 17, .val (Value.bool true))]
def fValidT1 (w : World) (xp : Nat) (xq : Nat) : List (Nat × Tmp × Sp) :=
   [(0, 3, .val (Value.pointer (some ⟨w.heap.size, 1, none⟩))),
    (1, 4, .nat (xp)),
    (2, 5, .val (Value.bool true)),
    (3, 6, .val (Value.bool false)),
    (4, 7, .val (Value.bool false)),
    (5, 8, .val (Value.pointer (some ⟨w.heap.size, 2, none⟩))),
    (6, 9, .nat (xq)),
    (7, 10, .val (Value.bool true)),
    (8, 11, .val (Value.bool false)),
    (9, 12, .val (Value.bool false)),
    (10, 13, .val (Value.bool false)),
    (11, 14, .val (Value.pointer (some ⟨w.heap.size, 2, none⟩))),
    (12, 15, .nat (xq)),
    (13, 16, .val (Value.bool false)),
    (14, 17, .val (Value.bool false))]
def fValidT2 (xp : Nat) (xq : Nat) : List (Nat × Tmp × Sp) :=
   [(0, 18, .fq (Fq.mk true xp xq)),
    (1, 19, .val (Value.agg #[Value.bool true, Value.bool true])),
    (2, 20, .val (Value.agg #[Value.bool true, Value.bool true])),
    (3, 21, .val (Value.bool false)),
    (4, 22, .val (Value.bool false)),
    (5, 23, .val undef),
    (6, 24, .val undef),
    (7, 25, .val undef),
    (8, 26, .val undef),
    (9, 27, .val undef),
    (10, 28, .val undef),
    (11, 29, .val undef),
    (12, 30, .val (Value.bool false)),
    (13, 2, .val (Value.bool false))]
def fValidT3 (w : World) (xp : Nat) (xq : Nat) : List (Nat × Tmp × Sp) :=
   [(0, 3, .val (Value.pointer (some ⟨w.heap.size, 1, none⟩))),
    (1, 4, .nat (xp)),
    (2, 5, .val (Value.bool true)),
    (3, 6, .val (Value.bool false)),
    (4, 7, .val (Value.bool false)),
    (5, 8, .val (Value.pointer (some ⟨w.heap.size, 2, none⟩))),
    (6, 9, .nat (xq)),
    (7, 10, .val (Value.bool true)),
    (8, 11, .val (Value.bool false)),
    (9, 12, .val (Value.bool false)),
    (10, 13, .val (Value.bool false)),
    (11, 14, .val (Value.pointer (some ⟨w.heap.size, 2, none⟩))),
    (12, 15, .nat (xq)),
    (13, 16, .val (Value.bool false)),
    (14, 17, .val (Value.bool false))]
def fValidT4 (w : World) (xp : Nat) (xq : Nat) (Gd : Nat) : List (Nat × Tmp × Sp) :=
   [(0, 18, .fq (Fq.mk true xp xq)),
    (1, 19, .val (Value.agg #[Value.bool true, Value.bool false])),
    (2, 20, .val (Value.agg #[Value.bool true, Value.bool true])),
    (3, 21, .val (Value.bool true)),
    (4, 22, .val (Value.bool true)),
    (5, 23, .val (Value.pointer (some ⟨w.heap.size, 1, none⟩))),
    (6, 24, .nat (xp)),
    (7, 25, .val (Value.pointer (some ⟨w.heap.size, 2, none⟩))),
    (8, 26, .nat (xq)),
    (9, 27, .nat (Gd)),
    (10, 28, .ones Gd),
    (11, 29, .val (Value.bool true)),
    (12, 30, .val (Value.bool true)),
    (13, 2, .val (Value.bool true))]
def fValidT5 (w : World) (xp : Nat) (xq : Nat) : List (Nat × Tmp × Sp) :=
   [(0, 3, .val (Value.pointer (some ⟨w.heap.size, 1, none⟩))),
    (1, 4, .nat (xp)),
    (2, 5, .val (Value.bool true)),
    (3, 6, .val (Value.bool false)),
    (4, 7, .val (Value.bool false)),
    (5, 8, .val (Value.pointer (some ⟨w.heap.size, 2, none⟩))),
    (6, 9, .nat (xq)),
    (7, 10, .val (Value.bool true)),
    (8, 11, .val (Value.bool false)),
    (9, 12, .val (Value.bool false)),
    (10, 13, .val (Value.bool false)),
    (11, 14, .val (Value.pointer (some ⟨w.heap.size, 2, none⟩))),
    (12, 15, .nat (xq)),
    (13, 16, .val (Value.bool false)),
    (14, 17, .val (Value.bool false))]
def fValidT6 (w : World) (xp : Nat) (xq : Nat) (Gd : Nat) : List (Nat × Tmp × Sp) :=
   [(0, 18, .fq (Fq.mk true xp xq)),
    (1, 19, .val (Value.agg #[Value.bool true, Value.bool false])),
    (2, 20, .val (Value.agg #[Value.bool true, Value.bool true])),
    (3, 21, .val (Value.bool true)),
    (4, 22, .val (Value.bool true)),
    (5, 23, .val (Value.pointer (some ⟨w.heap.size, 1, none⟩))),
    (6, 24, .nat (xp)),
    (7, 25, .val (Value.pointer (some ⟨w.heap.size, 2, none⟩))),
    (8, 26, .nat (xq)),
    (9, 27, .nat (Gd)),
    (10, 28, .ones Gd),
    (11, 29, .val (Value.bool false)),
    (12, 30, .val (Value.bool false)),
    (13, 2, .val (Value.bool false))]
def fValidT7 (w : World) (xp : Nat) (xq : Nat) : List (Nat × Tmp × Sp) :=
   [(0, 3, .val (Value.pointer (some ⟨w.heap.size, 1, none⟩))),
    (1, 4, .nat (xp)),
    (2, 5, .val (Value.bool true)),
    (3, 6, .val (Value.bool false)),
    (4, 7, .val (Value.bool false)),
    (5, 8, .val (Value.pointer (some ⟨w.heap.size, 2, none⟩))),
    (6, 9, .nat (xq)),
    (7, 10, .val (Value.bool true)),
    (8, 11, .val (Value.bool false)),
    (9, 12, .val (Value.bool false)),
    (10, 13, .val (Value.bool false)),
    (11, 14, .val (Value.pointer (some ⟨w.heap.size, 2, none⟩))),
    (12, 15, .nat (xq)),
    (13, 16, .val (Value.bool false)),
    (14, 17, .val (Value.bool false))]
def fValidT8 (w : World) (xp : Nat) (xq : Nat) (Gd : Nat) : List (Nat × Tmp × Sp) :=
   [(0, 18, .fq (Fq.mk false xp xq)),
    (1, 19, .val (Value.agg #[Value.bool false, Value.bool true])),
    (2, 20, .val (Value.agg #[Value.bool true, Value.bool true])),
    (3, 21, .val (Value.bool true)),
    (4, 22, .val (Value.bool true)),
    (5, 23, .val (Value.pointer (some ⟨w.heap.size, 1, none⟩))),
    (6, 24, .nat (xp)),
    (7, 25, .val (Value.pointer (some ⟨w.heap.size, 2, none⟩))),
    (8, 26, .nat (xq)),
    (9, 27, .nat (Gd)),
    (10, 28, .ones Gd),
    (11, 29, .val (Value.bool true)),
    (12, 30, .val (Value.bool true)),
    (13, 2, .val (Value.bool true))]
def fValidT9 (w : World) (xp : Nat) (xq : Nat) : List (Nat × Tmp × Sp) :=
   [(0, 3, .val (Value.pointer (some ⟨w.heap.size, 1, none⟩))),
    (1, 4, .nat (xp)),
    (2, 5, .val (Value.bool true)),
    (3, 6, .val (Value.bool false)),
    (4, 7, .val (Value.bool false)),
    (5, 8, .val (Value.pointer (some ⟨w.heap.size, 2, none⟩))),
    (6, 9, .nat (xq)),
    (7, 10, .val (Value.bool true)),
    (8, 11, .val (Value.bool false)),
    (9, 12, .val (Value.bool false)),
    (10, 13, .val (Value.bool false)),
    (11, 14, .val (Value.pointer (some ⟨w.heap.size, 2, none⟩))),
    (12, 15, .nat (xq)),
    (13, 16, .val (Value.bool false)),
    (14, 17, .val (Value.bool false))]
def fValidT10 (w : World) (xp : Nat) (xq : Nat) (Gd : Nat) : List (Nat × Tmp × Sp) :=
   [(0, 18, .fq (Fq.mk false xp xq)),
    (1, 19, .val (Value.agg #[Value.bool false, Value.bool true])),
    (2, 20, .val (Value.agg #[Value.bool true, Value.bool true])),
    (3, 21, .val (Value.bool true)),
    (4, 22, .val (Value.bool true)),
    (5, 23, .val (Value.pointer (some ⟨w.heap.size, 1, none⟩))),
    (6, 24, .nat (xp)),
    (7, 25, .val (Value.pointer (some ⟨w.heap.size, 2, none⟩))),
    (8, 26, .nat (xq)),
    (9, 27, .nat (Gd)),
    (10, 28, .ones Gd),
    (11, 29, .val (Value.bool false)),
    (12, 30, .val (Value.bool false)),
    (13, 2, .val (Value.bool false))]
def fValidT11 (w : World) (xp : Nat) (xq : Nat) : List (Nat × Tmp × Sp) :=
   [(0, 3, .val (Value.pointer (some ⟨w.heap.size, 1, none⟩))),
    (1, 4, .nat (xp)),
    (2, 5, .val (Value.bool true)),
    (3, 6, .val (Value.bool false)),
    (4, 7, .val (Value.bool false)),
    (5, 8, .val (Value.pointer (some ⟨w.heap.size, 2, none⟩))),
    (6, 9, .nat (xq)),
    (7, 10, .val (Value.bool true)),
    (8, 11, .val (Value.bool false)),
    (9, 12, .val (Value.bool false)),
    (10, 13, .val (Value.bool false)),
    (11, 14, .val (Value.pointer (some ⟨w.heap.size, 2, none⟩))),
    (12, 15, .nat (xq)),
    (13, 16, .val (Value.bool false)),
    (14, 17, .val (Value.bool false))]
def fValidT12 (w : World) (xp : Nat) (xq : Nat) (Gd : Nat) : List (Nat × Tmp × Sp) :=
   [(0, 18, .fq (Fq.mk false xp xq)),
    (1, 19, .val (Value.agg #[Value.bool false, Value.bool false])),
    (2, 20, .val (Value.agg #[Value.bool true, Value.bool true])),
    (3, 21, .val (Value.bool true)),
    (4, 22, .val (Value.bool true)),
    (5, 23, .val (Value.pointer (some ⟨w.heap.size, 1, none⟩))),
    (6, 24, .nat (xp)),
    (7, 25, .val (Value.pointer (some ⟨w.heap.size, 2, none⟩))),
    (8, 26, .nat (xq)),
    (9, 27, .nat (Gd)),
    (10, 28, .ones Gd),
    (11, 29, .val (Value.bool true)),
    (12, 30, .val (Value.bool true)),
    (13, 2, .val (Value.bool true))]
def fValidT13 (w : World) (xp : Nat) (xq : Nat) : List (Nat × Tmp × Sp) :=
   [(0, 3, .val (Value.pointer (some ⟨w.heap.size, 1, none⟩))),
    (1, 4, .nat (xp)),
    (2, 5, .val (Value.bool true)),
    (3, 6, .val (Value.bool false)),
    (4, 7, .val (Value.bool false)),
    (5, 8, .val (Value.pointer (some ⟨w.heap.size, 2, none⟩))),
    (6, 9, .nat (xq)),
    (7, 10, .val (Value.bool true)),
    (8, 11, .val (Value.bool false)),
    (9, 12, .val (Value.bool false)),
    (10, 13, .val (Value.bool false)),
    (11, 14, .val (Value.pointer (some ⟨w.heap.size, 2, none⟩))),
    (12, 15, .nat (xq)),
    (13, 16, .val (Value.bool false)),
    (14, 17, .val (Value.bool false))]
def fValidT14 (w : World) (xp : Nat) (xq : Nat) (Gd : Nat) : List (Nat × Tmp × Sp) :=
   [(0, 18, .fq (Fq.mk false xp xq)),
    (1, 19, .val (Value.agg #[Value.bool false, Value.bool false])),
    (2, 20, .val (Value.agg #[Value.bool true, Value.bool true])),
    (3, 21, .val (Value.bool true)),
    (4, 22, .val (Value.bool true)),
    (5, 23, .val (Value.pointer (some ⟨w.heap.size, 1, none⟩))),
    (6, 24, .nat (xp)),
    (7, 25, .val (Value.pointer (some ⟨w.heap.size, 2, none⟩))),
    (8, 26, .nat (xq)),
    (9, 27, .nat (Gd)),
    (10, 28, .ones Gd),
    (11, 29, .val (Value.bool false)),
    (12, 30, .val (Value.bool false)),
    (13, 2, .val (Value.bool false))]
set_option maxHeartbeats 4000000 in
theorem q_fValid (va : Value) (x : Fq) (w : World) (ha : IsQ w va x) (hp : nl x.p ≤ 1000000) (hq : nl x.q ≤ 1000000) :
    Calls Tryz.prog 75 #[va] w fun e w' => RetV w (.bool x.valid) e w' := by
  obtain ⟨xs, xp, xq⟩ := x
  have bp : nl xp ≤ 1000000 := hp
  have bq : nl xq ≤ 1000000 := hq
  by_cases h0 : xq = 0
  · have hv : (Fq.mk xs xp xq).valid = false := decide_eq_false (fun h => h.1 h0)
    have H0 : Hid (decide (xq = 0) = true) := Lib.hid (decide_eq_true h0)
    rw [hv]
    clear hv h0
    obtain ⟨a0, c0, b0, d0, rfl, m0, k0⟩ := boxF ha
    clear ha
    go_enter Tryz.func75, Tryz.ntmps75
    go_upto_region 0 with (fail)
    go_cut [1, 2] (fun s_1 s_2 wx => s_1 = Value.pointer (some ⟨w.heap.size, 0, none⟩) ∧ s_2 = Value.bool false ∧ VarQ wx w.heap.size (Fq.mk xs xp xq) ∧ Below w.heap.size w wx)
    case first =>
      go_wp2_with fail
      go_meet
      case rel => exact ⟨rfl, rfl, k0, m0⟩
    case rest =>
    clear m0 k0
    obtain ⟨rfl, rfl, V0, hb1⟩ := hcut
    go_upto_region 1 with (fail)
    go_cut [17] (fun s_17 wx => s_17 = Value.bool true ∧ VarQ wx w.heap.size (Fq.mk xs xp xq) ∧ Below w.heap.size w wx)
    case first =>
      refine wp_tabGF Tryz.f75 1 (fValidT0 w xp xq) [] (fun _ => false) 15 0 (by kernel_rfl) (by kernel_rfl) (by kernel_rfl) (by kernel_rfl) (by kernel_rfl) (EachX.of_all (fun _ h => by cases h) _) ?_ ?_
      · refine ⟨fun _ _ F => gR rfl rfl (arm_fieldF rfl (F.k 1 (Value.pointer (some ⟨w.heap.size, 0, none⟩))) (run_field1 _)).b, ?_⟩
        refine ⟨fun _ _ F => gR rfl rfl (arm_load1 rfl (F.f 0 rfl) (V0.mono F.below)).b, ?_⟩
        refine ⟨fun _ _ F => gR rfl rfl (arm_C1 rfl (enters Tryz.func94 rfl rfl) (F.f 1 rfl) (fun va w h1 => c_natural_Valid va (nl xp) xp w h1 (by omega)) (fun _ _ h => by have h' : RetV _ _ _ _ := h; rw [decide_eq_true (Eq.refl (nl xp))] at h'; exact ofV h')).b, ?_⟩
        refine ⟨fun _ _ F => gR rfl rfl (arm_not rfl (F.f 2 rfl)).b, ?_⟩
        refine ⟨fun _ _ F => gR rfl rfl (arm_move (.inl rfl) (F.f 3 rfl)).b, ?_⟩
        refine ⟨fun _ _ F => gG F rfl rfl rfl rfl (arm_fieldF rfl (F.k 1 (Value.pointer (some ⟨w.heap.size, 0, none⟩))) (run_field2 _)).b, ?_⟩
        refine ⟨fun _ _ F => gG F rfl rfl rfl rfl (arm_load2 rfl (F.f 5 rfl) (V0.mono F.below)).b, ?_⟩
        refine ⟨fun _ _ F => gG F rfl rfl rfl rfl (arm_C1 rfl (enters Tryz.func94 rfl rfl) (F.f 6 rfl) (fun va w h1 => c_natural_Valid va (nl xq) xq w h1 (by omega)) (fun _ _ h => by have h' : RetV _ _ _ _ := h; rw [decide_eq_true (Eq.refl (nl xq))] at h'; exact ofV h')).b, ?_⟩
        refine ⟨fun _ _ F => gG F rfl rfl rfl rfl (arm_not rfl (F.f 7 rfl)).b, ?_⟩
        refine ⟨fun _ _ F => gR rfl rfl (arm_pick rfl (F.f 4 rfl) (fun h => by cases h) (fun _ => (F.f 8 rfl))).b, ?_⟩
        refine ⟨fun _ _ F => gR rfl rfl (arm_move (.inl rfl) (F.f 9 rfl)).b, ?_⟩
        refine ⟨fun _ _ F => gG F rfl rfl rfl rfl (arm_fieldF rfl (F.k 1 (Value.pointer (some ⟨w.heap.size, 0, none⟩))) (run_field2 _)).b, ?_⟩
        refine ⟨fun _ _ F => gG F rfl rfl rfl rfl (arm_load2 rfl (F.f 11 rfl) (V0.mono F.below)).b, ?_⟩
        refine ⟨fun _ _ F => gG F rfl rfl rfl rfl (arm_C1 rfl (enters Tryz.func80 rfl rfl) (F.f 12 rfl) (fun va w h1 => c_isZero va xq w h1 (Nat.le_trans bq (by decide))) (fun _ _ h => by have h' : RetV _ _ _ _ := h; rw [H0.out] at h'; exact ofV h')).b, ?_⟩
        refine ⟨fun _ _ F => gR rfl rfl (arm_pick rfl (F.f 10 rfl) (fun h => by cases h) (fun _ => (F.f 13 rfl))).b, ?_⟩
        exact trivial
      intro E' hE gp wp bp G Gs
      obtain rfl : E' = [] := by simpa [subs] using hE
      have e_14 : gp 14 = Value.bool true := G 14 17 _ (by simp) rfl
      clear G Gs hE
      simp only [fValidT0]
      simp only [qA, setD, qZ, qS, e_14]
      refine wpAny_done (by kernel_rfl) ?_ _
      go_wp2_with fail
      go_meet
      case rel => exact ⟨rfl, (V0.mono bp), (hb1.trans (bp.mono hb1.size))⟩
    case rest =>
    clear V0 hb1
    obtain ⟨rfl, V0, hb1⟩ := hcut
    go_wp2
    go_ret
    exact ⟨rfl, hb1⟩
  · have H0 : Hid (decide (xq = 0) = false) := Lib.hid (decide_eq_false h0)
    have HN : Hid (xq ≠ 0) := Lib.hid h0
    clear h0
    obtain ⟨Gd, hGd⟩ : ∃ N : Nat, Hid (N = Nat.gcd xp xq) := ⟨_, Lib.hid rfl⟩
    have bg : nl Gd ≤ 1000000 := by rw [hGd.out]; exact Nat.le_trans (nl_mono (Nat.gcd_le_right xp (Nat.pos_of_ne_zero HN.out))) bq
    rcases Bool.eq_false_or_eq_true xs with rfl | rfl
    · by_cases hz : xp = 0
      · have HZ : Hid (decide (xp = 0) = true) := Lib.hid (decide_eq_true hz)
        have hv : (Fq.mk true xp xq).valid = false := decide_eq_false (fun h => h.2.1 ⟨rfl, hz⟩)
        rw [hv]
        clear hv hz
        obtain ⟨a0, c0, b0, d0, rfl, m0, k0⟩ := boxF ha
        clear ha
        go_enter Tryz.func75, Tryz.ntmps75
        go_upto_region 0 with (fail)
        go_cut [1, 2] (fun s_1 s_2 wx => s_1 = Value.pointer (some ⟨w.heap.size, 0, none⟩) ∧ s_2 = Value.bool false ∧ VarQ wx w.heap.size (Fq.mk true xp xq) ∧ Below w.heap.size w wx)
        case first =>
          go_wp2_with fail
          go_meet
          case rel => exact ⟨rfl, rfl, k0, m0⟩
        case rest =>
        clear m0 k0
        obtain ⟨rfl, rfl, V0, hb1⟩ := hcut
        go_upto_region 1 with (fail)
        go_cut [17] (fun s_17 wx => s_17 = Value.bool false ∧ VarQ wx w.heap.size (Fq.mk true xp xq) ∧ Below w.heap.size w wx)
        case first =>
          refine wp_tabGF Tryz.f75 1 (fValidT1 w xp xq) [] (fun _ => false) 15 0 (by kernel_rfl) (by kernel_rfl) (by kernel_rfl) (by kernel_rfl) (by kernel_rfl) (EachX.of_all (fun _ h => by cases h) _) ?_ ?_
          · refine ⟨fun _ _ F => gR rfl rfl (arm_fieldF rfl (F.k 1 (Value.pointer (some ⟨w.heap.size, 0, none⟩))) (run_field1 _)).b, ?_⟩
            refine ⟨fun _ _ F => gR rfl rfl (arm_load1 rfl (F.f 0 rfl) (V0.mono F.below)).b, ?_⟩
            refine ⟨fun _ _ F => gR rfl rfl (arm_C1 rfl (enters Tryz.func94 rfl rfl) (F.f 1 rfl) (fun va w h1 => c_natural_Valid va (nl xp) xp w h1 (by omega)) (fun _ _ h => by have h' : RetV _ _ _ _ := h; rw [decide_eq_true (Eq.refl (nl xp))] at h'; exact ofV h')).b, ?_⟩
            refine ⟨fun _ _ F => gR rfl rfl (arm_not rfl (F.f 2 rfl)).b, ?_⟩
            refine ⟨fun _ _ F => gR rfl rfl (arm_move (.inl rfl) (F.f 3 rfl)).b, ?_⟩
            refine ⟨fun _ _ F => gG F rfl rfl rfl rfl (arm_fieldF rfl (F.k 1 (Value.pointer (some ⟨w.heap.size, 0, none⟩))) (run_field2 _)).b, ?_⟩
            refine ⟨fun _ _ F => gG F rfl rfl rfl rfl (arm_load2 rfl (F.f 5 rfl) (V0.mono F.below)).b, ?_⟩
            refine ⟨fun _ _ F => gG F rfl rfl rfl rfl (arm_C1 rfl (enters Tryz.func94 rfl rfl) (F.f 6 rfl) (fun va w h1 => c_natural_Valid va (nl xq) xq w h1 (by omega)) (fun _ _ h => by have h' : RetV _ _ _ _ := h; rw [decide_eq_true (Eq.refl (nl xq))] at h'; exact ofV h')).b, ?_⟩
            refine ⟨fun _ _ F => gG F rfl rfl rfl rfl (arm_not rfl (F.f 7 rfl)).b, ?_⟩
            refine ⟨fun _ _ F => gR rfl rfl (arm_pick rfl (F.f 4 rfl) (fun h => by cases h) (fun _ => (F.f 8 rfl))).b, ?_⟩
            refine ⟨fun _ _ F => gR rfl rfl (arm_move (.inl rfl) (F.f 9 rfl)).b, ?_⟩
            refine ⟨fun _ _ F => gG F rfl rfl rfl rfl (arm_fieldF rfl (F.k 1 (Value.pointer (some ⟨w.heap.size, 0, none⟩))) (run_field2 _)).b, ?_⟩
            refine ⟨fun _ _ F => gG F rfl rfl rfl rfl (arm_load2 rfl (F.f 11 rfl) (V0.mono F.below)).b, ?_⟩
            refine ⟨fun _ _ F => gG F rfl rfl rfl rfl (arm_C1 rfl (enters Tryz.func80 rfl rfl) (F.f 12 rfl) (fun va w h1 => c_isZero va xq w h1 (Nat.le_trans bq (by decide))) (fun _ _ h => by have h' : RetV _ _ _ _ := h; rw [H0.out] at h'; exact ofV h')).b, ?_⟩
            refine ⟨fun _ _ F => gR rfl rfl (arm_pick rfl (F.f 10 rfl) (fun h => by cases h) (fun _ => (F.f 13 rfl))).b, ?_⟩
            exact trivial
          intro E' hE gp wp bp G Gs
          obtain rfl : E' = [] := by simpa [subs] using hE
          have e_14 : gp 14 = Value.bool false := G 14 17 _ (by simp) rfl
          clear G Gs hE
          simp only [fValidT1]
          simp only [qA, setD, qZ, qS, e_14]
          refine wpAny_done (by kernel_rfl) ?_ _
          go_wp2_with fail
          go_meet
          case rel => exact ⟨rfl, (V0.mono bp), (hb1.trans (bp.mono hb1.size))⟩
        case rest =>
        clear V0 hb1
        obtain ⟨rfl, V0, hb1⟩ := hcut
        go_upto_region 3 with (fail)
        go_cut [2] (fun s_2 wx => s_2 = Value.bool false ∧ VarQ wx w.heap.size (Fq.mk true xp xq) ∧ Below w.heap.size w wx)
        case first =>
          refine wp_tabGF Tryz.f75 3 (fValidT2 xp xq) [] (fun _ => false) 11 0 (by kernel_rfl) (by kernel_rfl) (by kernel_rfl) (by kernel_rfl) (by kernel_rfl) (EachX.of_all (fun _ h => by cases h) _) ?_ ?_
          · refine ⟨fun _ _ F => gR rfl rfl (arm_loadF rfl (F.k 1 (Value.pointer (some ⟨w.heap.size, 0, none⟩))) (V0.mono F.below)).b, ?_⟩
            refine ⟨fun _ _ F => gR rfl rfl (arm_C1 rfl (enters Tryz.func86 rfl rfl) (F.f 0 rfl) (fun va w h1 => c_mark va (Fq.mk true xp xq) w h1 (Nat.le_trans bp (by decide)) HZ.out) (fun _ _ h => ofV h)).b, ?_⟩
            refine ⟨fun _ _ F => gR rfl rfl (arm_buildS2 rfl Is.const Is.const).b, ?_⟩
            refine ⟨fun _ _ F => gR rfl rfl (arm_bin rfl (F.f 1 rfl) (F.f 2 rfl) (fun w => guard_neSS _ _ _ _ w) (fun w => run_neSS _ _ _ _ w)).b, ?_⟩
            refine ⟨fun _ _ F => gR rfl rfl (arm_move (.inl rfl) (F.f 3 rfl)).b, ?_⟩
            refine ⟨fun _ _ F => gS F rfl rfl rfl rfl rfl rfl, ?_⟩
            refine ⟨fun _ _ F => gS F rfl rfl rfl rfl rfl rfl, ?_⟩
            refine ⟨fun _ _ F => gS F rfl rfl rfl rfl rfl rfl, ?_⟩
            refine ⟨fun _ _ F => gS F rfl rfl rfl rfl rfl rfl, ?_⟩
            refine ⟨fun _ _ F => gS F rfl rfl rfl rfl rfl rfl, ?_⟩
            refine ⟨fun _ _ F => gS F rfl rfl rfl rfl rfl rfl, ?_⟩
            refine ⟨fun _ _ F => gS F rfl rfl rfl rfl rfl rfl, ?_⟩
            refine ⟨fun _ _ F => gR rfl rfl (arm_pick rfl (F.f 4 rfl) (fun h => by cases h) (fun _ => Is.const)).b, ?_⟩
            refine ⟨fun _ _ F => gR rfl rfl (arm_move (.inr rfl) (F.f 12 rfl)).b, ?_⟩
            exact trivial
          intro E' hE gp wp bp G Gs
          obtain rfl : E' = [] := by simpa [subs] using hE
          have e_13 : gp 13 = Value.bool false := G 13 2 _ (by simp) rfl
          clear G Gs hE
          simp only [fValidT2]
          simp only [qA, setD, qZ, qS, e_13]
          refine wpAny_done (by kernel_rfl) ?_ _
          go_wp2_with fail
          go_meet
          case rel => exact ⟨rfl, (V0.mono bp), (hb1.trans (bp.mono hb1.size))⟩
        case rest =>
        clear V0 hb1
        obtain ⟨rfl, V0, hb1⟩ := hcut
        go_wp2
        go_ret
        exact ⟨rfl, hb1⟩
      · have HZ : Hid (decide (xp = 0) = false) := Lib.hid (decide_eq_false hz)
        by_cases hg : Gd = 1
        · have HG : Hid (decide (Gd = 1) = true) := Lib.hid (decide_eq_true hg)
          have hv : (Fq.mk true xp xq).valid = true := decide_eq_true ⟨HN.out, fun h => absurd h.2 hz, by rw [← hg]; exact hGd.out.symm⟩
          rw [hv]
          clear hv hz hg
          obtain ⟨a0, c0, b0, d0, rfl, m0, k0⟩ := boxF ha
          clear ha
          go_enter Tryz.func75, Tryz.ntmps75
          go_upto_region 0 with (fail)
          go_cut [1, 2] (fun s_1 s_2 wx => s_1 = Value.pointer (some ⟨w.heap.size, 0, none⟩) ∧ s_2 = Value.bool false ∧ VarQ wx w.heap.size (Fq.mk true xp xq) ∧ Below w.heap.size w wx)
          case first =>
            go_wp2_with fail
            go_meet
            case rel => exact ⟨rfl, rfl, k0, m0⟩
          case rest =>
          clear m0 k0
          obtain ⟨rfl, rfl, V0, hb1⟩ := hcut
          go_upto_region 1 with (fail)
          go_cut [17] (fun s_17 wx => s_17 = Value.bool false ∧ VarQ wx w.heap.size (Fq.mk true xp xq) ∧ Below w.heap.size w wx)
          case first =>
            refine wp_tabGF Tryz.f75 1 (fValidT3 w xp xq) [] (fun _ => false) 15 0 (by kernel_rfl) (by kernel_rfl) (by kernel_rfl) (by kernel_rfl) (by kernel_rfl) (EachX.of_all (fun _ h => by cases h) _) ?_ ?_
            · refine ⟨fun _ _ F => gR rfl rfl (arm_fieldF rfl (F.k 1 (Value.pointer (some ⟨w.heap.size, 0, none⟩))) (run_field1 _)).b, ?_⟩
              refine ⟨fun _ _ F => gR rfl rfl (arm_load1 rfl (F.f 0 rfl) (V0.mono F.below)).b, ?_⟩
              refine ⟨fun _ _ F => gR rfl rfl (arm_C1 rfl (enters Tryz.func94 rfl rfl) (F.f 1 rfl) (fun va w h1 => c_natural_Valid va (nl xp) xp w h1 (by omega)) (fun _ _ h => by have h' : RetV _ _ _ _ := h; rw [decide_eq_true (Eq.refl (nl xp))] at h'; exact ofV h')).b, ?_⟩
              refine ⟨fun _ _ F => gR rfl rfl (arm_not rfl (F.f 2 rfl)).b, ?_⟩
              refine ⟨fun _ _ F => gR rfl rfl (arm_move (.inl rfl) (F.f 3 rfl)).b, ?_⟩
              refine ⟨fun _ _ F => gG F rfl rfl rfl rfl (arm_fieldF rfl (F.k 1 (Value.pointer (some ⟨w.heap.size, 0, none⟩))) (run_field2 _)).b, ?_⟩
              refine ⟨fun _ _ F => gG F rfl rfl rfl rfl (arm_load2 rfl (F.f 5 rfl) (V0.mono F.below)).b, ?_⟩
              refine ⟨fun _ _ F => gG F rfl rfl rfl rfl (arm_C1 rfl (enters Tryz.func94 rfl rfl) (F.f 6 rfl) (fun va w h1 => c_natural_Valid va (nl xq) xq w h1 (by omega)) (fun _ _ h => by have h' : RetV _ _ _ _ := h; rw [decide_eq_true (Eq.refl (nl xq))] at h'; exact ofV h')).b, ?_⟩
              refine ⟨fun _ _ F => gG F rfl rfl rfl rfl (arm_not rfl (F.f 7 rfl)).b, ?_⟩
              refine ⟨fun _ _ F => gR rfl rfl (arm_pick rfl (F.f 4 rfl) (fun h => by cases h) (fun _ => (F.f 8 rfl))).b, ?_⟩
              refine ⟨fun _ _ F => gR rfl rfl (arm_move (.inl rfl) (F.f 9 rfl)).b, ?_⟩
              refine ⟨fun _ _ F => gG F rfl rfl rfl rfl (arm_fieldF rfl (F.k 1 (Value.pointer (some ⟨w.heap.size, 0, none⟩))) (run_field2 _)).b, ?_⟩
              refine ⟨fun _ _ F => gG F rfl rfl rfl rfl (arm_load2 rfl (F.f 11 rfl) (V0.mono F.below)).b, ?_⟩
              refine ⟨fun _ _ F => gG F rfl rfl rfl rfl (arm_C1 rfl (enters Tryz.func80 rfl rfl) (F.f 12 rfl) (fun va w h1 => c_isZero va xq w h1 (Nat.le_trans bq (by decide))) (fun _ _ h => by have h' : RetV _ _ _ _ := h; rw [H0.out] at h'; exact ofV h')).b, ?_⟩
              refine ⟨fun _ _ F => gR rfl rfl (arm_pick rfl (F.f 10 rfl) (fun h => by cases h) (fun _ => (F.f 13 rfl))).b, ?_⟩
              exact trivial
            intro E' hE gp wp bp G Gs
            obtain rfl : E' = [] := by simpa [subs] using hE
            have e_14 : gp 14 = Value.bool false := G 14 17 _ (by simp) rfl
            clear G Gs hE
            simp only [fValidT3]
            simp only [qA, setD, qZ, qS, e_14]
            refine wpAny_done (by kernel_rfl) ?_ _
            go_wp2_with fail
            go_meet
            case rel => exact ⟨rfl, (V0.mono bp), (hb1.trans (bp.mono hb1.size))⟩
          case rest =>
          clear V0 hb1
          obtain ⟨rfl, V0, hb1⟩ := hcut
          go_upto_region 3 with (fail)
          go_cut [2] (fun s_2 wx => s_2 = Value.bool true ∧ VarQ wx w.heap.size (Fq.mk true xp xq) ∧ Below w.heap.size w wx)
          case first =>
            refine wp_tabGF Tryz.f75 3 (fValidT4 w xp xq Gd) [] (fun _ => false) 11 0 (by kernel_rfl) (by kernel_rfl) (by kernel_rfl) (by kernel_rfl) (by kernel_rfl) (EachX.of_all (fun _ h => by cases h) _) ?_ ?_
            · refine ⟨fun _ _ F => gR rfl rfl (arm_loadF rfl (F.k 1 (Value.pointer (some ⟨w.heap.size, 0, none⟩))) (V0.mono F.below)).b, ?_⟩
              refine ⟨fun _ _ F => gR rfl rfl (arm_C1 rfl (enters Tryz.func86 rfl rfl) (F.f 0 rfl) (fun va w h1 => c_mark va (Fq.mk true xp xq) w h1 (Nat.le_trans bp (by decide)) HZ.out) (fun _ _ h => ofV h)).b, ?_⟩
              refine ⟨fun _ _ F => gR rfl rfl (arm_buildS2 rfl Is.const Is.const).b, ?_⟩
              refine ⟨fun _ _ F => gR rfl rfl (arm_bin rfl (F.f 1 rfl) (F.f 2 rfl) (fun w => guard_neSS _ _ _ _ w) (fun w => run_neSS _ _ _ _ w)).b, ?_⟩
              refine ⟨fun _ _ F => gR rfl rfl (arm_move (.inl rfl) (F.f 3 rfl)).b, ?_⟩
              refine ⟨fun _ _ F => gG F rfl rfl rfl rfl (arm_fieldF rfl (F.k 1 (Value.pointer (some ⟨w.heap.size, 0, none⟩))) (run_field1 _)).b, ?_⟩
              refine ⟨fun _ _ F => gG F rfl rfl rfl rfl (arm_load1 rfl (F.f 5 rfl) (V0.mono F.below)).b, ?_⟩
              refine ⟨fun _ _ F => gG F rfl rfl rfl rfl (arm_fieldF rfl (F.k 1 (Value.pointer (some ⟨w.heap.size, 0, none⟩))) (run_field2 _)).b, ?_⟩
              refine ⟨fun _ _ F => gG F rfl rfl rfl rfl (arm_load2 rfl (F.f 7 rfl) (V0.mono F.below)).b, ?_⟩
              refine ⟨fun _ _ F => gG F rfl rfl rfl rfl (arm_C2 rfl (enters Tryz.func78 rfl rfl) (F.f 6 rfl) (F.f 8 rfl) (fun va vb w h1 h2 => c_natural_Gcd va vb xp xq w h1 h2 (Nat.le_trans bp (by decide)) (Nat.le_trans bq (by decide))) (fun _ _ h => by rw [hGd.out]; exact ofNew h)).b, ?_⟩
              refine ⟨fun _ _ F => gG F rfl rfl rfl rfl (arm_ones rfl (F.f 9 rfl)).b, ?_⟩
              refine ⟨fun _ _ F => gG F rfl rfl rfl rfl (arm_C1 rfl (enters Tryz.func74 rfl rfl) (F.f 10 rfl) (fun va w h1 => c_one1 va Gd w h1 (by omega)) (fun _ _ h => by have h' : RetV _ _ _ _ := h; rw [HG.out] at h'; exact ofV h')).b, ?_⟩
              refine ⟨fun _ _ F => gR rfl rfl (arm_pick rfl (F.f 4 rfl) (fun _ => (F.f 11 rfl)) (fun h => by cases h)).b, ?_⟩
              refine ⟨fun _ _ F => gR rfl rfl (arm_move (.inr rfl) (F.f 12 rfl)).b, ?_⟩
              exact trivial
            intro E' hE gp wp bp G Gs
            obtain rfl : E' = [] := by simpa [subs] using hE
            have e_13 : gp 13 = Value.bool true := G 13 2 _ (by simp) rfl
            clear G Gs hE
            simp only [fValidT4]
            simp only [qA, setD, qZ, qS, e_13]
            refine wpAny_done (by kernel_rfl) ?_ _
            go_wp2_with fail
            go_meet
            case rel => exact ⟨rfl, (V0.mono bp), (hb1.trans (bp.mono hb1.size))⟩
          case rest =>
          clear V0 hb1
          obtain ⟨rfl, V0, hb1⟩ := hcut
          go_wp2
          go_ret
          exact ⟨rfl, hb1⟩
        · have HG : Hid (decide (Gd = 1) = false) := Lib.hid (decide_eq_false hg)
          have hv : (Fq.mk true xp xq).valid = false := decide_eq_false (fun h => hg (by rw [hGd.out]; exact h.2.2))
          rw [hv]
          clear hv hz hg
          obtain ⟨a0, c0, b0, d0, rfl, m0, k0⟩ := boxF ha
          clear ha
          go_enter Tryz.func75, Tryz.ntmps75
          go_upto_region 0 with (fail)
          go_cut [1, 2] (fun s_1 s_2 wx => s_1 = Value.pointer (some ⟨w.heap.size, 0, none⟩) ∧ s_2 = Value.bool false ∧ VarQ wx w.heap.size (Fq.mk true xp xq) ∧ Below w.heap.size w wx)
          case first =>
            go_wp2_with fail
            go_meet
            case rel => exact ⟨rfl, rfl, k0, m0⟩
          case rest =>
          clear m0 k0
          obtain ⟨rfl, rfl, V0, hb1⟩ := hcut
          go_upto_region 1 with (fail)
          go_cut [17] (fun s_17 wx => s_17 = Value.bool false ∧ VarQ wx w.heap.size (Fq.mk true xp xq) ∧ Below w.heap.size w wx)
          case first =>
            refine wp_tabGF Tryz.f75 1 (fValidT5 w xp xq) [] (fun _ => false) 15 0 (by kernel_rfl) (by kernel_rfl) (by kernel_rfl) (by kernel_rfl) (by kernel_rfl) (EachX.of_all (fun _ h => by cases h) _) ?_ ?_
            · refine ⟨fun _ _ F => gR rfl rfl (arm_fieldF rfl (F.k 1 (Value.pointer (some ⟨w.heap.size, 0, none⟩))) (run_field1 _)).b, ?_⟩
              refine ⟨fun _ _ F => gR rfl rfl (arm_load1 rfl (F.f 0 rfl) (V0.mono F.below)).b, ?_⟩
              refine ⟨fun _ _ F => gR rfl rfl (arm_C1 rfl (enters Tryz.func94 rfl rfl) (F.f 1 rfl) (fun va w h1 => c_natural_Valid va (nl xp) xp w h1 (by omega)) (fun _ _ h => by have h' : RetV _ _ _ _ := h; rw [decide_eq_true (Eq.refl (nl xp))] at h'; exact ofV h')).b, ?_⟩
              refine ⟨fun _ _ F => gR rfl rfl (arm_not rfl (F.f 2 rfl)).b, ?_⟩
              refine ⟨fun _ _ F => gR rfl rfl (arm_move (.inl rfl) (F.f 3 rfl)).b, ?_⟩
              refine ⟨fun _ _ F => gG F rfl rfl rfl rfl (arm_fieldF rfl (F.k 1 (Value.pointer (some ⟨w.heap.size, 0, none⟩))) (run_field2 _)).b, ?_⟩
              refine ⟨fun _ _ F => gG F rfl rfl rfl rfl (arm_load2 rfl (F.f 5 rfl) (V0.mono F.below)).b, ?_⟩
              refine ⟨fun _ _ F => gG F rfl rfl rfl rfl (arm_C1 rfl (enters Tryz.func94 rfl rfl) (F.f 6 rfl) (fun va w h1 => c_natural_Valid va (nl xq) xq w h1 (by omega)) (fun _ _ h => by have h' : RetV _ _ _ _ := h; rw [decide_eq_true (Eq.refl (nl xq))] at h'; exact ofV h')).b, ?_⟩
              refine ⟨fun _ _ F => gG F rfl rfl rfl rfl (arm_not rfl (F.f 7 rfl)).b, ?_⟩
              refine ⟨fun _ _ F => gR rfl rfl (arm_pick rfl (F.f 4 rfl) (fun h => by cases h) (fun _ => (F.f 8 rfl))).b, ?_⟩
              refine ⟨fun _ _ F => gR rfl rfl (arm_move (.inl rfl) (F.f 9 rfl)).b, ?_⟩
              refine ⟨fun _ _ F => gG F rfl rfl rfl rfl (arm_fieldF rfl (F.k 1 (Value.pointer (some ⟨w.heap.size, 0, none⟩))) (run_field2 _)).b, ?_⟩
              refine ⟨fun _ _ F => gG F rfl rfl rfl rfl (arm_load2 rfl (F.f 11 rfl) (V0.mono F.below)).b, ?_⟩
              refine ⟨fun _ _ F => gG F rfl rfl rfl rfl (arm_C1 rfl (enters Tryz.func80 rfl rfl) (F.f 12 rfl) (fun va w h1 => c_isZero va xq w h1 (Nat.le_trans bq (by decide))) (fun _ _ h => by have h' : RetV _ _ _ _ := h; rw [H0.out] at h'; exact ofV h')).b, ?_⟩
              refine ⟨fun _ _ F => gR rfl rfl (arm_pick rfl (F.f 10 rfl) (fun h => by cases h) (fun _ => (F.f 13 rfl))).b, ?_⟩
              exact trivial
            intro E' hE gp wp bp G Gs
            obtain rfl : E' = [] := by simpa [subs] using hE
            have e_14 : gp 14 = Value.bool false := G 14 17 _ (by simp) rfl
            clear G Gs hE
            simp only [fValidT5]
            simp only [qA, setD, qZ, qS, e_14]
            refine wpAny_done (by kernel_rfl) ?_ _
            go_wp2_with fail
            go_meet
            case rel => exact ⟨rfl, (V0.mono bp), (hb1.trans (bp.mono hb1.size))⟩
          case rest =>
          clear V0 hb1
          obtain ⟨rfl, V0, hb1⟩ := hcut
          go_upto_region 3 with (fail)
          go_cut [2] (fun s_2 wx => s_2 = Value.bool false ∧ VarQ wx w.heap.size (Fq.mk true xp xq) ∧ Below w.heap.size w wx)
          case first =>
            refine wp_tabGF Tryz.f75 3 (fValidT6 w xp xq Gd) [] (fun _ => false) 11 0 (by kernel_rfl) (by kernel_rfl) (by kernel_rfl) (by kernel_rfl) (by kernel_rfl) (EachX.of_all (fun _ h => by cases h) _) ?_ ?_
            · refine ⟨fun _ _ F => gR rfl rfl (arm_loadF rfl (F.k 1 (Value.pointer (some ⟨w.heap.size, 0, none⟩))) (V0.mono F.below)).b, ?_⟩
              refine ⟨fun _ _ F => gR rfl rfl (arm_C1 rfl (enters Tryz.func86 rfl rfl) (F.f 0 rfl) (fun va w h1 => c_mark va (Fq.mk true xp xq) w h1 (Nat.le_trans bp (by decide)) HZ.out) (fun _ _ h => ofV h)).b, ?_⟩
              refine ⟨fun _ _ F => gR rfl rfl (arm_buildS2 rfl Is.const Is.const).b, ?_⟩
              refine ⟨fun _ _ F => gR rfl rfl (arm_bin rfl (F.f 1 rfl) (F.f 2 rfl) (fun w => guard_neSS _ _ _ _ w) (fun w => run_neSS _ _ _ _ w)).b, ?_⟩
              refine ⟨fun _ _ F => gR rfl rfl (arm_move (.inl rfl) (F.f 3 rfl)).b, ?_⟩
              refine ⟨fun _ _ F => gG F rfl rfl rfl rfl (arm_fieldF rfl (F.k 1 (Value.pointer (some ⟨w.heap.size, 0, none⟩))) (run_field1 _)).b, ?_⟩
              refine ⟨fun _ _ F => gG F rfl rfl rfl rfl (arm_load1 rfl (F.f 5 rfl) (V0.mono F.below)).b, ?_⟩
              refine ⟨fun _ _ F => gG F rfl rfl rfl rfl (arm_fieldF rfl (F.k 1 (Value.pointer (some ⟨w.heap.size, 0, none⟩))) (run_field2 _)).b, ?_⟩
              refine ⟨fun _ _ F => gG F rfl rfl rfl rfl (arm_load2 rfl (F.f 7 rfl) (V0.mono F.below)).b, ?_⟩
              refine ⟨fun _ _ F => gG F rfl rfl rfl rfl (arm_C2 rfl (enters Tryz.func78 rfl rfl) (F.f 6 rfl) (F.f 8 rfl) (fun va vb w h1 h2 => c_natural_Gcd va vb xp xq w h1 h2 (Nat.le_trans bp (by decide)) (Nat.le_trans bq (by decide))) (fun _ _ h => by rw [hGd.out]; exact ofNew h)).b, ?_⟩
              refine ⟨fun _ _ F => gG F rfl rfl rfl rfl (arm_ones rfl (F.f 9 rfl)).b, ?_⟩
              refine ⟨fun _ _ F => gG F rfl rfl rfl rfl (arm_C1 rfl (enters Tryz.func74 rfl rfl) (F.f 10 rfl) (fun va w h1 => c_one1 va Gd w h1 (by omega)) (fun _ _ h => by have h' : RetV _ _ _ _ := h; rw [HG.out] at h'; exact ofV h')).b, ?_⟩
              refine ⟨fun _ _ F => gR rfl rfl (arm_pick rfl (F.f 4 rfl) (fun _ => (F.f 11 rfl)) (fun h => by cases h)).b, ?_⟩
              refine ⟨fun _ _ F => gR rfl rfl (arm_move (.inr rfl) (F.f 12 rfl)).b, ?_⟩
              exact trivial
            intro E' hE gp wp bp G Gs
            obtain rfl : E' = [] := by simpa [subs] using hE
            have e_13 : gp 13 = Value.bool false := G 13 2 _ (by simp) rfl
            clear G Gs hE
            simp only [fValidT6]
            simp only [qA, setD, qZ, qS, e_13]
            refine wpAny_done (by kernel_rfl) ?_ _
            go_wp2_with fail
            go_meet
            case rel => exact ⟨rfl, (V0.mono bp), (hb1.trans (bp.mono hb1.size))⟩
          case rest =>
          clear V0 hb1
          obtain ⟨rfl, V0, hb1⟩ := hcut
          go_wp2
          go_ret
          exact ⟨rfl, hb1⟩
    · by_cases hz : xp = 0
      · have HZ : Hid (decide (xp = 0) = true) := Lib.hid (decide_eq_true hz)
        by_cases hg : Gd = 1
        · have HG : Hid (decide (Gd = 1) = true) := Lib.hid (decide_eq_true hg)
          have hv : (Fq.mk false xp xq).valid = true := decide_eq_true ⟨HN.out, fun h => (by have h1 := h.1; cases h1), by rw [← hg]; exact hGd.out.symm⟩
          rw [hv]
          clear hv hz hg
          obtain ⟨a0, c0, b0, d0, rfl, m0, k0⟩ := boxF ha
          clear ha
          go_enter Tryz.func75, Tryz.ntmps75
          go_upto_region 0 with (fail)
          go_cut [1, 2] (fun s_1 s_2 wx => s_1 = Value.pointer (some ⟨w.heap.size, 0, none⟩) ∧ s_2 = Value.bool false ∧ VarQ wx w.heap.size (Fq.mk false xp xq) ∧ Below w.heap.size w wx)
          case first =>
            go_wp2_with fail
            go_meet
            case rel => exact ⟨rfl, rfl, k0, m0⟩
          case rest =>
          clear m0 k0
          obtain ⟨rfl, rfl, V0, hb1⟩ := hcut
          go_upto_region 1 with (fail)
          go_cut [17] (fun s_17 wx => s_17 = Value.bool false ∧ VarQ wx w.heap.size (Fq.mk false xp xq) ∧ Below w.heap.size w wx)
          case first =>
            refine wp_tabGF Tryz.f75 1 (fValidT7 w xp xq) [] (fun _ => false) 15 0 (by kernel_rfl) (by kernel_rfl) (by kernel_rfl) (by kernel_rfl) (by kernel_rfl) (EachX.of_all (fun _ h => by cases h) _) ?_ ?_
            · refine ⟨fun _ _ F => gR rfl rfl (arm_fieldF rfl (F.k 1 (Value.pointer (some ⟨w.heap.size, 0, none⟩))) (run_field1 _)).b, ?_⟩
              refine ⟨fun _ _ F => gR rfl rfl (arm_load1 rfl (F.f 0 rfl) (V0.mono F.below)).b, ?_⟩
              refine ⟨fun _ _ F => gR rfl rfl (arm_C1 rfl (enters Tryz.func94 rfl rfl) (F.f 1 rfl) (fun va w h1 => c_natural_Valid va (nl xp) xp w h1 (by omega)) (fun _ _ h => by have h' : RetV _ _ _ _ := h; rw [decide_eq_true (Eq.refl (nl xp))] at h'; exact ofV h')).b, ?_⟩
              refine ⟨fun _ _ F => gR rfl rfl (arm_not rfl (F.f 2 rfl)).b, ?_⟩
              refine ⟨fun _ _ F => gR rfl rfl (arm_move (.inl rfl) (F.f 3 rfl)).b, ?_⟩
              refine ⟨fun _ _ F => gG F rfl rfl rfl rfl (arm_fieldF rfl (F.k 1 (Value.pointer (some ⟨w.heap.size, 0, none⟩))) (run_field2 _)).b, ?_⟩
              refine ⟨fun _ _ F => gG F rfl rfl rfl rfl (arm_load2 rfl (F.f 5 rfl) (V0.mono F.below)).b, ?_⟩
              refine ⟨fun _ _ F => gG F rfl rfl rfl rfl (arm_C1 rfl (enters Tryz.func94 rfl rfl) (F.f 6 rfl) (fun va w h1 => c_natural_Valid va (nl xq) xq w h1 (by omega)) (fun _ _ h => by have h' : RetV _ _ _ _ := h; rw [decide_eq_true (Eq.refl (nl xq))] at h'; exact ofV h')).b, ?_⟩
              refine ⟨fun _ _ F => gG F rfl rfl rfl rfl (arm_not rfl (F.f 7 rfl)).b, ?_⟩
              refine ⟨fun _ _ F => gR rfl rfl (arm_pick rfl (F.f 4 rfl) (fun h => by cases h) (fun _ => (F.f 8 rfl))).b, ?_⟩
              refine ⟨fun _ _ F => gR rfl rfl (arm_move (.inl rfl) (F.f 9 rfl)).b, ?_⟩
              refine ⟨fun _ _ F => gG F rfl rfl rfl rfl (arm_fieldF rfl (F.k 1 (Value.pointer (some ⟨w.heap.size, 0, none⟩))) (run_field2 _)).b, ?_⟩
              refine ⟨fun _ _ F => gG F rfl rfl rfl rfl (arm_load2 rfl (F.f 11 rfl) (V0.mono F.below)).b, ?_⟩
              refine ⟨fun _ _ F => gG F rfl rfl rfl rfl (arm_C1 rfl (enters Tryz.func80 rfl rfl) (F.f 12 rfl) (fun va w h1 => c_isZero va xq w h1 (Nat.le_trans bq (by decide))) (fun _ _ h => by have h' : RetV _ _ _ _ := h; rw [H0.out] at h'; exact ofV h')).b, ?_⟩
              refine ⟨fun _ _ F => gR rfl rfl (arm_pick rfl (F.f 10 rfl) (fun h => by cases h) (fun _ => (F.f 13 rfl))).b, ?_⟩
              exact trivial
            intro E' hE gp wp bp G Gs
            obtain rfl : E' = [] := by simpa [subs] using hE
            have e_14 : gp 14 = Value.bool false := G 14 17 _ (by simp) rfl
            clear G Gs hE
            simp only [fValidT7]
            simp only [qA, setD, qZ, qS, e_14]
            refine wpAny_done (by kernel_rfl) ?_ _
            go_wp2_with fail
            go_meet
            case rel => exact ⟨rfl, (V0.mono bp), (hb1.trans (bp.mono hb1.size))⟩
          case rest =>
          clear V0 hb1
          obtain ⟨rfl, V0, hb1⟩ := hcut
          go_upto_region 3 with (fail)
          go_cut [2] (fun s_2 wx => s_2 = Value.bool true ∧ VarQ wx w.heap.size (Fq.mk false xp xq) ∧ Below w.heap.size w wx)
          case first =>
            refine wp_tabGF Tryz.f75 3 (fValidT8 w xp xq Gd) [] (fun _ => false) 11 0 (by kernel_rfl) (by kernel_rfl) (by kernel_rfl) (by kernel_rfl) (by kernel_rfl) (EachX.of_all (fun _ h => by cases h) _) ?_ ?_
            · refine ⟨fun _ _ F => gR rfl rfl (arm_loadF rfl (F.k 1 (Value.pointer (some ⟨w.heap.size, 0, none⟩))) (V0.mono F.below)).b, ?_⟩
              refine ⟨fun _ _ F => gR rfl rfl (arm_C1 rfl (enters Tryz.func86 rfl rfl) (F.f 0 rfl) (fun va w h1 => c_mark va (Fq.mk false xp xq) w h1 (Nat.le_trans bp (by decide)) HZ.out) (fun _ _ h => ofV h)).b, ?_⟩
              refine ⟨fun _ _ F => gR rfl rfl (arm_buildS2 rfl Is.const Is.const).b, ?_⟩
              refine ⟨fun _ _ F => gR rfl rfl (arm_bin rfl (F.f 1 rfl) (F.f 2 rfl) (fun w => guard_neSS _ _ _ _ w) (fun w => run_neSS _ _ _ _ w)).b, ?_⟩
              refine ⟨fun _ _ F => gR rfl rfl (arm_move (.inl rfl) (F.f 3 rfl)).b, ?_⟩
              refine ⟨fun _ _ F => gG F rfl rfl rfl rfl (arm_fieldF rfl (F.k 1 (Value.pointer (some ⟨w.heap.size, 0, none⟩))) (run_field1 _)).b, ?_⟩
              refine ⟨fun _ _ F => gG F rfl rfl rfl rfl (arm_load1 rfl (F.f 5 rfl) (V0.mono F.below)).b, ?_⟩
              refine ⟨fun _ _ F => gG F rfl rfl rfl rfl (arm_fieldF rfl (F.k 1 (Value.pointer (some ⟨w.heap.size, 0, none⟩))) (run_field2 _)).b, ?_⟩
              refine ⟨fun _ _ F => gG F rfl rfl rfl rfl (arm_load2 rfl (F.f 7 rfl) (V0.mono F.below)).b, ?_⟩
              refine ⟨fun _ _ F => gG F rfl rfl rfl rfl (arm_C2 rfl (enters Tryz.func78 rfl rfl) (F.f 6 rfl) (F.f 8 rfl) (fun va vb w h1 h2 => c_natural_Gcd va vb xp xq w h1 h2 (Nat.le_trans bp (by decide)) (Nat.le_trans bq (by decide))) (fun _ _ h => by rw [hGd.out]; exact ofNew h)).b, ?_⟩
              refine ⟨fun _ _ F => gG F rfl rfl rfl rfl (arm_ones rfl (F.f 9 rfl)).b, ?_⟩
              refine ⟨fun _ _ F => gG F rfl rfl rfl rfl (arm_C1 rfl (enters Tryz.func74 rfl rfl) (F.f 10 rfl) (fun va w h1 => c_one1 va Gd w h1 (by omega)) (fun _ _ h => by have h' : RetV _ _ _ _ := h; rw [HG.out] at h'; exact ofV h')).b, ?_⟩
              refine ⟨fun _ _ F => gR rfl rfl (arm_pick rfl (F.f 4 rfl) (fun _ => (F.f 11 rfl)) (fun h => by cases h)).b, ?_⟩
              refine ⟨fun _ _ F => gR rfl rfl (arm_move (.inr rfl) (F.f 12 rfl)).b, ?_⟩
              exact trivial
            intro E' hE gp wp bp G Gs
            obtain rfl : E' = [] := by simpa [subs] using hE
            have e_13 : gp 13 = Value.bool true := G 13 2 _ (by simp) rfl
            clear G Gs hE
            simp only [fValidT8]
            simp only [qA, setD, qZ, qS, e_13]
            refine wpAny_done (by kernel_rfl) ?_ _
            go_wp2_with fail
            go_meet
            case rel => exact ⟨rfl, (V0.mono bp), (hb1.trans (bp.mono hb1.size))⟩
          case rest =>
          clear V0 hb1
          obtain ⟨rfl, V0, hb1⟩ := hcut
          go_wp2
          go_ret
          exact ⟨rfl, hb1⟩
        · have HG : Hid (decide (Gd = 1) = false) := Lib.hid (decide_eq_false hg)
          have hv : (Fq.mk false xp xq).valid = false := decide_eq_false (fun h => hg (by rw [hGd.out]; exact h.2.2))
          rw [hv]
          clear hv hz hg
          obtain ⟨a0, c0, b0, d0, rfl, m0, k0⟩ := boxF ha
          clear ha
          go_enter Tryz.func75, Tryz.ntmps75
          go_upto_region 0 with (fail)
          go_cut [1, 2] (fun s_1 s_2 wx => s_1 = Value.pointer (some ⟨w.heap.size, 0, none⟩) ∧ s_2 = Value.bool false ∧ VarQ wx w.heap.size (Fq.mk false xp xq) ∧ Below w.heap.size w wx)
          case first =>
            go_wp2_with fail
            go_meet
            case rel => exact ⟨rfl, rfl, k0, m0⟩
          case rest =>
          clear m0 k0
          obtain ⟨rfl, rfl, V0, hb1⟩ := hcut
          go_upto_region 1 with (fail)
          go_cut [17] (fun s_17 wx => s_17 = Value.bool false ∧ VarQ wx w.heap.size (Fq.mk false xp xq) ∧ Below w.heap.size w wx)
          case first =>
            refine wp_tabGF Tryz.f75 1 (fValidT9 w xp xq) [] (fun _ => false) 15 0 (by kernel_rfl) (by kernel_rfl) (by kernel_rfl) (by kernel_rfl) (by kernel_rfl) (EachX.of_all (fun _ h => by cases h) _) ?_ ?_
            · refine ⟨fun _ _ F => gR rfl rfl (arm_fieldF rfl (F.k 1 (Value.pointer (some ⟨w.heap.size, 0, none⟩))) (run_field1 _)).b, ?_⟩
              refine ⟨fun _ _ F => gR rfl rfl (arm_load1 rfl (F.f 0 rfl) (V0.mono F.below)).b, ?_⟩
              refine ⟨fun _ _ F => gR rfl rfl (arm_C1 rfl (enters Tryz.func94 rfl rfl) (F.f 1 rfl) (fun va w h1 => c_natural_Valid va (nl xp) xp w h1 (by omega)) (fun _ _ h => by have h' : RetV _ _ _ _ := h; rw [decide_eq_true (Eq.refl (nl xp))] at h'; exact ofV h')).b, ?_⟩
              refine ⟨fun _ _ F => gR rfl rfl (arm_not rfl (F.f 2 rfl)).b, ?_⟩
              refine ⟨fun _ _ F => gR rfl rfl (arm_move (.inl rfl) (F.f 3 rfl)).b, ?_⟩
              refine ⟨fun _ _ F => gG F rfl rfl rfl rfl (arm_fieldF rfl (F.k 1 (Value.pointer (some ⟨w.heap.size, 0, none⟩))) (run_field2 _)).b, ?_⟩
              refine ⟨fun _ _ F => gG F rfl rfl rfl rfl (arm_load2 rfl (F.f 5 rfl) (V0.mono F.below)).b, ?_⟩
              refine ⟨fun _ _ F => gG F rfl rfl rfl rfl (arm_C1 rfl (enters Tryz.func94 rfl rfl) (F.f 6 rfl) (fun va w h1 => c_natural_Valid va (nl xq) xq w h1 (by omega)) (fun _ _ h => by have h' : RetV _ _ _ _ := h; rw [decide_eq_true (Eq.refl (nl xq))] at h'; exact ofV h')).b, ?_⟩
              refine ⟨fun _ _ F => gG F rfl rfl rfl rfl (arm_not rfl (F.f 7 rfl)).b, ?_⟩
              refine ⟨fun _ _ F => gR rfl rfl (arm_pick rfl (F.f 4 rfl) (fun h => by cases h) (fun _ => (F.f 8 rfl))).b, ?_⟩
              refine ⟨fun _ _ F => gR rfl rfl (arm_move (.inl rfl) (F.f 9 rfl)).b, ?_⟩
              refine ⟨fun _ _ F => gG F rfl rfl rfl rfl (arm_fieldF rfl (F.k 1 (Value.pointer (some ⟨w.heap.size, 0, none⟩))) (run_field2 _)).b, ?_⟩
              refine ⟨fun _ _ F => gG F rfl rfl rfl rfl (arm_load2 rfl (F.f 11 rfl) (V0.mono F.below)).b, ?_⟩
              refine ⟨fun _ _ F => gG F rfl rfl rfl rfl (arm_C1 rfl (enters Tryz.func80 rfl rfl) (F.f 12 rfl) (fun va w h1 => c_isZero va xq w h1 (Nat.le_trans bq (by decide))) (fun _ _ h => by have h' : RetV _ _ _ _ := h; rw [H0.out] at h'; exact ofV h')).b, ?_⟩
              refine ⟨fun _ _ F => gR rfl rfl (arm_pick rfl (F.f 10 rfl) (fun h => by cases h) (fun _ => (F.f 13 rfl))).b, ?_⟩
              exact trivial
            intro E' hE gp wp bp G Gs
            obtain rfl : E' = [] := by simpa [subs] using hE
            have e_14 : gp 14 = Value.bool false := G 14 17 _ (by simp) rfl
            clear G Gs hE
            simp only [fValidT9]
            simp only [qA, setD, qZ, qS, e_14]
            refine wpAny_done (by kernel_rfl) ?_ _
            go_wp2_with fail
            go_meet
            case rel => exact ⟨rfl, (V0.mono bp), (hb1.trans (bp.mono hb1.size))⟩
          case rest =>
          clear V0 hb1
          obtain ⟨rfl, V0, hb1⟩ := hcut
          go_upto_region 3 with (fail)
          go_cut [2] (fun s_2 wx => s_2 = Value.bool false ∧ VarQ wx w.heap.size (Fq.mk false xp xq) ∧ Below w.heap.size w wx)
          case first =>
            refine wp_tabGF Tryz.f75 3 (fValidT10 w xp xq Gd) [] (fun _ => false) 11 0 (by kernel_rfl) (by kernel_rfl) (by kernel_rfl) (by kernel_rfl) (by kernel_rfl) (EachX.of_all (fun _ h => by cases h) _) ?_ ?_
            · refine ⟨fun _ _ F => gR rfl rfl (arm_loadF rfl (F.k 1 (Value.pointer (some ⟨w.heap.size, 0, none⟩))) (V0.mono F.below)).b, ?_⟩
              refine ⟨fun _ _ F => gR rfl rfl (arm_C1 rfl (enters Tryz.func86 rfl rfl) (F.f 0 rfl) (fun va w h1 => c_mark va (Fq.mk false xp xq) w h1 (Nat.le_trans bp (by decide)) HZ.out) (fun _ _ h => ofV h)).b, ?_⟩
              refine ⟨fun _ _ F => gR rfl rfl (arm_buildS2 rfl Is.const Is.const).b, ?_⟩
              refine ⟨fun _ _ F => gR rfl rfl (arm_bin rfl (F.f 1 rfl) (F.f 2 rfl) (fun w => guard_neSS _ _ _ _ w) (fun w => run_neSS _ _ _ _ w)).b, ?_⟩
              refine ⟨fun _ _ F => gR rfl rfl (arm_move (.inl rfl) (F.f 3 rfl)).b, ?_⟩
              refine ⟨fun _ _ F => gG F rfl rfl rfl rfl (arm_fieldF rfl (F.k 1 (Value.pointer (some ⟨w.heap.size, 0, none⟩))) (run_field1 _)).b, ?_⟩
              refine ⟨fun _ _ F => gG F rfl rfl rfl rfl (arm_load1 rfl (F.f 5 rfl) (V0.mono F.below)).b, ?_⟩
              refine ⟨fun _ _ F => gG F rfl rfl rfl rfl (arm_fieldF rfl (F.k 1 (Value.pointer (some ⟨w.heap.size, 0, none⟩))) (run_field2 _)).b, ?_⟩
              refine ⟨fun _ _ F => gG F rfl rfl rfl rfl (arm_load2 rfl (F.f 7 rfl) (V0.mono F.below)).b, ?_⟩
              refine ⟨fun _ _ F => gG F rfl rfl rfl rfl (arm_C2 rfl (enters Tryz.func78 rfl rfl) (F.f 6 rfl) (F.f 8 rfl) (fun va vb w h1 h2 => c_natural_Gcd va vb xp xq w h1 h2 (Nat.le_trans bp (by decide)) (Nat.le_trans bq (by decide))) (fun _ _ h => by rw [hGd.out]; exact ofNew h)).b, ?_⟩
              refine ⟨fun _ _ F => gG F rfl rfl rfl rfl (arm_ones rfl (F.f 9 rfl)).b, ?_⟩
              refine ⟨fun _ _ F => gG F rfl rfl rfl rfl (arm_C1 rfl (enters Tryz.func74 rfl rfl) (F.f 10 rfl) (fun va w h1 => c_one1 va Gd w h1 (by omega)) (fun _ _ h => by have h' : RetV _ _ _ _ := h; rw [HG.out] at h'; exact ofV h')).b, ?_⟩
              refine ⟨fun _ _ F => gR rfl rfl (arm_pick rfl (F.f 4 rfl) (fun _ => (F.f 11 rfl)) (fun h => by cases h)).b, ?_⟩
              refine ⟨fun _ _ F => gR rfl rfl (arm_move (.inr rfl) (F.f 12 rfl)).b, ?_⟩
              exact trivial
            intro E' hE gp wp bp G Gs
            obtain rfl : E' = [] := by simpa [subs] using hE
            have e_13 : gp 13 = Value.bool false := G 13 2 _ (by simp) rfl
            clear G Gs hE
            simp only [fValidT10]
            simp only [qA, setD, qZ, qS, e_13]
            refine wpAny_done (by kernel_rfl) ?_ _
            go_wp2_with fail
            go_meet
            case rel => exact ⟨rfl, (V0.mono bp), (hb1.trans (bp.mono hb1.size))⟩
          case rest =>
          clear V0 hb1
          obtain ⟨rfl, V0, hb1⟩ := hcut
          go_wp2
          go_ret
          exact ⟨rfl, hb1⟩
      · have HZ : Hid (decide (xp = 0) = false) := Lib.hid (decide_eq_false hz)
        by_cases hg : Gd = 1
        · have HG : Hid (decide (Gd = 1) = true) := Lib.hid (decide_eq_true hg)
          have hv : (Fq.mk false xp xq).valid = true := decide_eq_true ⟨HN.out, fun h => (by have h1 := h.1; cases h1), by rw [← hg]; exact hGd.out.symm⟩
          rw [hv]
          clear hv hz hg
          obtain ⟨a0, c0, b0, d0, rfl, m0, k0⟩ := boxF ha
          clear ha
          go_enter Tryz.func75, Tryz.ntmps75
          go_upto_region 0 with (fail)
          go_cut [1, 2] (fun s_1 s_2 wx => s_1 = Value.pointer (some ⟨w.heap.size, 0, none⟩) ∧ s_2 = Value.bool false ∧ VarQ wx w.heap.size (Fq.mk false xp xq) ∧ Below w.heap.size w wx)
          case first =>
            go_wp2_with fail
            go_meet
            case rel => exact ⟨rfl, rfl, k0, m0⟩
          case rest =>
          clear m0 k0
          obtain ⟨rfl, rfl, V0, hb1⟩ := hcut
          go_upto_region 1 with (fail)
          go_cut [17] (fun s_17 wx => s_17 = Value.bool false ∧ VarQ wx w.heap.size (Fq.mk false xp xq) ∧ Below w.heap.size w wx)
          case first =>
            refine wp_tabGF Tryz.f75 1 (fValidT11 w xp xq) [] (fun _ => false) 15 0 (by kernel_rfl) (by kernel_rfl) (by kernel_rfl) (by kernel_rfl) (by kernel_rfl) (EachX.of_all (fun _ h => by cases h) _) ?_ ?_
            · refine ⟨fun _ _ F => gR rfl rfl (arm_fieldF rfl (F.k 1 (Value.pointer (some ⟨w.heap.size, 0, none⟩))) (run_field1 _)).b, ?_⟩
              refine ⟨fun _ _ F => gR rfl rfl (arm_load1 rfl (F.f 0 rfl) (V0.mono F.below)).b, ?_⟩
              refine ⟨fun _ _ F => gR rfl rfl (arm_C1 rfl (enters Tryz.func94 rfl rfl) (F.f 1 rfl) (fun va w h1 => c_natural_Valid va (nl xp) xp w h1 (by omega)) (fun _ _ h => by have h' : RetV _ _ _ _ := h; rw [decide_eq_true (Eq.refl (nl xp))] at h'; exact ofV h')).b, ?_⟩
              refine ⟨fun _ _ F => gR rfl rfl (arm_not rfl (F.f 2 rfl)).b, ?_⟩
              refine ⟨fun _ _ F => gR rfl rfl (arm_move (.inl rfl) (F.f 3 rfl)).b, ?_⟩
              refine ⟨fun _ _ F => gG F rfl rfl rfl rfl (arm_fieldF rfl (F.k 1 (Value.pointer (some ⟨w.heap.size, 0, none⟩))) (run_field2 _)).b, ?_⟩
              refine ⟨fun _ _ F => gG F rfl rfl rfl rfl (arm_load2 rfl (F.f 5 rfl) (V0.mono F.below)).b, ?_⟩
              refine ⟨fun _ _ F => gG F rfl rfl rfl rfl (arm_C1 rfl (enters Tryz.func94 rfl rfl) (F.f 6 rfl) (fun va w h1 => c_natural_Valid va (nl xq) xq w h1 (by omega)) (fun _ _ h => by have h' : RetV _ _ _ _ := h; rw [decide_eq_true (Eq.refl (nl xq))] at h'; exact ofV h')).b, ?_⟩
              refine ⟨fun _ _ F => gG F rfl rfl rfl rfl (arm_not rfl (F.f 7 rfl)).b, ?_⟩
              refine ⟨fun _ _ F => gR rfl rfl (arm_pick rfl (F.f 4 rfl) (fun h => by cases h) (fun _ => (F.f 8 rfl))).b, ?_⟩
              refine ⟨fun _ _ F => gR rfl rfl (arm_move (.inl rfl) (F.f 9 rfl)).b, ?_⟩
              refine ⟨fun _ _ F => gG F rfl rfl rfl rfl (arm_fieldF rfl (F.k 1 (Value.pointer (some ⟨w.heap.size, 0, none⟩))) (run_field2 _)).b, ?_⟩
              refine ⟨fun _ _ F => gG F rfl rfl rfl rfl (arm_load2 rfl (F.f 11 rfl) (V0.mono F.below)).b, ?_⟩
              refine ⟨fun _ _ F => gG F rfl rfl rfl rfl (arm_C1 rfl (enters Tryz.func80 rfl rfl) (F.f 12 rfl) (fun va w h1 => c_isZero va xq w h1 (Nat.le_trans bq (by decide))) (fun _ _ h => by have h' : RetV _ _ _ _ := h; rw [H0.out] at h'; exact ofV h')).b, ?_⟩
              refine ⟨fun _ _ F => gR rfl rfl (arm_pick rfl (F.f 10 rfl) (fun h => by cases h) (fun _ => (F.f 13 rfl))).b, ?_⟩
              exact trivial
            intro E' hE gp wp bp G Gs
            obtain rfl : E' = [] := by simpa [subs] using hE
            have e_14 : gp 14 = Value.bool false := G 14 17 _ (by simp) rfl
            clear G Gs hE
            simp only [fValidT11]
            simp only [qA, setD, qZ, qS, e_14]
            refine wpAny_done (by kernel_rfl) ?_ _
            go_wp2_with fail
            go_meet
            case rel => exact ⟨rfl, (V0.mono bp), (hb1.trans (bp.mono hb1.size))⟩
          case rest =>
          clear V0 hb1
          obtain ⟨rfl, V0, hb1⟩ := hcut
          go_upto_region 3 with (fail)
          go_cut [2] (fun s_2 wx => s_2 = Value.bool true ∧ VarQ wx w.heap.size (Fq.mk false xp xq) ∧ Below w.heap.size w wx)
          case first =>
            refine wp_tabGF Tryz.f75 3 (fValidT12 w xp xq Gd) [] (fun _ => false) 11 0 (by kernel_rfl) (by kernel_rfl) (by kernel_rfl) (by kernel_rfl) (by kernel_rfl) (EachX.of_all (fun _ h => by cases h) _) ?_ ?_
            · refine ⟨fun _ _ F => gR rfl rfl (arm_loadF rfl (F.k 1 (Value.pointer (some ⟨w.heap.size, 0, none⟩))) (V0.mono F.below)).b, ?_⟩
              refine ⟨fun _ _ F => gR rfl rfl (arm_C1 rfl (enters Tryz.func86 rfl rfl) (F.f 0 rfl) (fun va w h1 => c_mark va (Fq.mk false xp xq) w h1 (Nat.le_trans bp (by decide)) HZ.out) (fun _ _ h => ofV h)).b, ?_⟩
              refine ⟨fun _ _ F => gR rfl rfl (arm_buildS2 rfl Is.const Is.const).b, ?_⟩
              refine ⟨fun _ _ F => gR rfl rfl (arm_bin rfl (F.f 1 rfl) (F.f 2 rfl) (fun w => guard_neSS _ _ _ _ w) (fun w => run_neSS _ _ _ _ w)).b, ?_⟩
              refine ⟨fun _ _ F => gR rfl rfl (arm_move (.inl rfl) (F.f 3 rfl)).b, ?_⟩
              refine ⟨fun _ _ F => gG F rfl rfl rfl rfl (arm_fieldF rfl (F.k 1 (Value.pointer (some ⟨w.heap.size, 0, none⟩))) (run_field1 _)).b, ?_⟩
              refine ⟨fun _ _ F => gG F rfl rfl rfl rfl (arm_load1 rfl (F.f 5 rfl) (V0.mono F.below)).b, ?_⟩
              refine ⟨fun _ _ F => gG F rfl rfl rfl rfl (arm_fieldF rfl (F.k 1 (Value.pointer (some ⟨w.heap.size, 0, none⟩))) (run_field2 _)).b, ?_⟩
              refine ⟨fun _ _ F => gG F rfl rfl rfl rfl (arm_load2 rfl (F.f 7 rfl) (V0.mono F.below)).b, ?_⟩
              refine ⟨fun _ _ F => gG F rfl rfl rfl rfl (arm_C2 rfl (enters Tryz.func78 rfl rfl) (F.f 6 rfl) (F.f 8 rfl) (fun va vb w h1 h2 => c_natural_Gcd va vb xp xq w h1 h2 (Nat.le_trans bp (by decide)) (Nat.le_trans bq (by decide))) (fun _ _ h => by rw [hGd.out]; exact ofNew h)).b, ?_⟩
              refine ⟨fun _ _ F => gG F rfl rfl rfl rfl (arm_ones rfl (F.f 9 rfl)).b, ?_⟩
              refine ⟨fun _ _ F => gG F rfl rfl rfl rfl (arm_C1 rfl (enters Tryz.func74 rfl rfl) (F.f 10 rfl) (fun va w h1 => c_one1 va Gd w h1 (by omega)) (fun _ _ h => by have h' : RetV _ _ _ _ := h; rw [HG.out] at h'; exact ofV h')).b, ?_⟩
              refine ⟨fun _ _ F => gR rfl rfl (arm_pick rfl (F.f 4 rfl) (fun _ => (F.f 11 rfl)) (fun h => by cases h)).b, ?_⟩
              refine ⟨fun _ _ F => gR rfl rfl (arm_move (.inr rfl) (F.f 12 rfl)).b, ?_⟩
              exact trivial
            intro E' hE gp wp bp G Gs
            obtain rfl : E' = [] := by simpa [subs] using hE
            have e_13 : gp 13 = Value.bool true := G 13 2 _ (by simp) rfl
            clear G Gs hE
            simp only [fValidT12]
            simp only [qA, setD, qZ, qS, e_13]
            refine wpAny_done (by kernel_rfl) ?_ _
            go_wp2_with fail
            go_meet
            case rel => exact ⟨rfl, (V0.mono bp), (hb1.trans (bp.mono hb1.size))⟩
          case rest =>
          clear V0 hb1
          obtain ⟨rfl, V0, hb1⟩ := hcut
          go_wp2
          go_ret
          exact ⟨rfl, hb1⟩
        · have HG : Hid (decide (Gd = 1) = false) := Lib.hid (decide_eq_false hg)
          have hv : (Fq.mk false xp xq).valid = false := decide_eq_false (fun h => hg (by rw [hGd.out]; exact h.2.2))
          rw [hv]
          clear hv hz hg
          obtain ⟨a0, c0, b0, d0, rfl, m0, k0⟩ := boxF ha
          clear ha
          go_enter Tryz.func75, Tryz.ntmps75
          go_upto_region 0 with (fail)
          go_cut [1, 2] (fun s_1 s_2 wx => s_1 = Value.pointer (some ⟨w.heap.size, 0, none⟩) ∧ s_2 = Value.bool false ∧ VarQ wx w.heap.size (Fq.mk false xp xq) ∧ Below w.heap.size w wx)
          case first =>
            go_wp2_with fail
            go_meet
            case rel => exact ⟨rfl, rfl, k0, m0⟩
          case rest =>
          clear m0 k0
          obtain ⟨rfl, rfl, V0, hb1⟩ := hcut
          go_upto_region 1 with (fail)
          go_cut [17] (fun s_17 wx => s_17 = Value.bool false ∧ VarQ wx w.heap.size (Fq.mk false xp xq) ∧ Below w.heap.size w wx)
          case first =>
            refine wp_tabGF Tryz.f75 1 (fValidT13 w xp xq) [] (fun _ => false) 15 0 (by kernel_rfl) (by kernel_rfl) (by kernel_rfl) (by kernel_rfl) (by kernel_rfl) (EachX.of_all (fun _ h => by cases h) _) ?_ ?_
            · refine ⟨fun _ _ F => gR rfl rfl (arm_fieldF rfl (F.k 1 (Value.pointer (some ⟨w.heap.size, 0, none⟩))) (run_field1 _)).b, ?_⟩
              refine ⟨fun _ _ F => gR rfl rfl (arm_load1 rfl (F.f 0 rfl) (V0.mono F.below)).b, ?_⟩
              refine ⟨fun _ _ F => gR rfl rfl (arm_C1 rfl (enters Tryz.func94 rfl rfl) (F.f 1 rfl) (fun va w h1 => c_natural_Valid va (nl xp) xp w h1 (by omega)) (fun _ _ h => by have h' : RetV _ _ _ _ := h; rw [decide_eq_true (Eq.refl (nl xp))] at h'; exact ofV h')).b, ?_⟩
              refine ⟨fun _ _ F => gR rfl rfl (arm_not rfl (F.f 2 rfl)).b, ?_⟩
              refine ⟨fun _ _ F => gR rfl rfl (arm_move (.inl rfl) (F.f 3 rfl)).b, ?_⟩
              refine ⟨fun _ _ F => gG F rfl rfl rfl rfl (arm_fieldF rfl (F.k 1 (Value.pointer (some ⟨w.heap.size, 0, none⟩))) (run_field2 _)).b, ?_⟩
              refine ⟨fun _ _ F => gG F rfl rfl rfl rfl (arm_load2 rfl (F.f 5 rfl) (V0.mono F.below)).b, ?_⟩
              refine ⟨fun _ _ F => gG F rfl rfl rfl rfl (arm_C1 rfl (enters Tryz.func94 rfl rfl) (F.f 6 rfl) (fun va w h1 => c_natural_Valid va (nl xq) xq w h1 (by omega)) (fun _ _ h => by have h' : RetV _ _ _ _ := h; rw [decide_eq_true (Eq.refl (nl xq))] at h'; exact ofV h')).b, ?_⟩
              refine ⟨fun _ _ F => gG F rfl rfl rfl rfl (arm_not rfl (F.f 7 rfl)).b, ?_⟩
              refine ⟨fun _ _ F => gR rfl rfl (arm_pick rfl (F.f 4 rfl) (fun h => by cases h) (fun _ => (F.f 8 rfl))).b, ?_⟩
              refine ⟨fun _ _ F => gR rfl rfl (arm_move (.inl rfl) (F.f 9 rfl)).b, ?_⟩
              refine ⟨fun _ _ F => gG F rfl rfl rfl rfl (arm_fieldF rfl (F.k 1 (Value.pointer (some ⟨w.heap.size, 0, none⟩))) (run_field2 _)).b, ?_⟩
              refine ⟨fun _ _ F => gG F rfl rfl rfl rfl (arm_load2 rfl (F.f 11 rfl) (V0.mono F.below)).b, ?_⟩
              refine ⟨fun _ _ F => gG F rfl rfl rfl rfl (arm_C1 rfl (enters Tryz.func80 rfl rfl) (F.f 12 rfl) (fun va w h1 => c_isZero va xq w h1 (Nat.le_trans bq (by decide))) (fun _ _ h => by have h' : RetV _ _ _ _ := h; rw [H0.out] at h'; exact ofV h')).b, ?_⟩
              refine ⟨fun _ _ F => gR rfl rfl (arm_pick rfl (F.f 10 rfl) (fun h => by cases h) (fun _ => (F.f 13 rfl))).b, ?_⟩
              exact trivial
            intro E' hE gp wp bp G Gs
            obtain rfl : E' = [] := by simpa [subs] using hE
            have e_14 : gp 14 = Value.bool false := G 14 17 _ (by simp) rfl
            clear G Gs hE
            simp only [fValidT13]
            simp only [qA, setD, qZ, qS, e_14]
            refine wpAny_done (by kernel_rfl) ?_ _
            go_wp2_with fail
            go_meet
            case rel => exact ⟨rfl, (V0.mono bp), (hb1.trans (bp.mono hb1.size))⟩
          case rest =>
          clear V0 hb1
          obtain ⟨rfl, V0, hb1⟩ := hcut
          go_upto_region 3 with (fail)
          go_cut [2] (fun s_2 wx => s_2 = Value.bool false ∧ VarQ wx w.heap.size (Fq.mk false xp xq) ∧ Below w.heap.size w wx)
          case first =>
            refine wp_tabGF Tryz.f75 3 (fValidT14 w xp xq Gd) [] (fun _ => false) 11 0 (by kernel_rfl) (by kernel_rfl) (by kernel_rfl) (by kernel_rfl) (by kernel_rfl) (EachX.of_all (fun _ h => by cases h) _) ?_ ?_
            · refine ⟨fun _ _ F => gR rfl rfl (arm_loadF rfl (F.k 1 (Value.pointer (some ⟨w.heap.size, 0, none⟩))) (V0.mono F.below)).b, ?_⟩
              refine ⟨fun _ _ F => gR rfl rfl (arm_C1 rfl (enters Tryz.func86 rfl rfl) (F.f 0 rfl) (fun va w h1 => c_mark va (Fq.mk false xp xq) w h1 (Nat.le_trans bp (by decide)) HZ.out) (fun _ _ h => ofV h)).b, ?_⟩
              refine ⟨fun _ _ F => gR rfl rfl (arm_buildS2 rfl Is.const Is.const).b, ?_⟩
              refine ⟨fun _ _ F => gR rfl rfl (arm_bin rfl (F.f 1 rfl) (F.f 2 rfl) (fun w => guard_neSS _ _ _ _ w) (fun w => run_neSS _ _ _ _ w)).b, ?_⟩
              refine ⟨fun _ _ F => gR rfl rfl (arm_move (.inl rfl) (F.f 3 rfl)).b, ?_⟩
              refine ⟨fun _ _ F => gG F rfl rfl rfl rfl (arm_fieldF rfl (F.k 1 (Value.pointer (some ⟨w.heap.size, 0, none⟩))) (run_field1 _)).b, ?_⟩
              refine ⟨fun _ _ F => gG F rfl rfl rfl rfl (arm_load1 rfl (F.f 5 rfl) (V0.mono F.below)).b, ?_⟩
              refine ⟨fun _ _ F => gG F rfl rfl rfl rfl (arm_fieldF rfl (F.k 1 (Value.pointer (some ⟨w.heap.size, 0, none⟩))) (run_field2 _)).b, ?_⟩
              refine ⟨fun _ _ F => gG F rfl rfl rfl rfl (arm_load2 rfl (F.f 7 rfl) (V0.mono F.below)).b, ?_⟩
              refine ⟨fun _ _ F => gG F rfl rfl rfl rfl (arm_C2 rfl (enters Tryz.func78 rfl rfl) (F.f 6 rfl) (F.f 8 rfl) (fun va vb w h1 h2 => c_natural_Gcd va vb xp xq w h1 h2 (Nat.le_trans bp (by decide)) (Nat.le_trans bq (by decide))) (fun _ _ h => by rw [hGd.out]; exact ofNew h)).b, ?_⟩
              refine ⟨fun _ _ F => gG F rfl rfl rfl rfl (arm_ones rfl (F.f 9 rfl)).b, ?_⟩
              refine ⟨fun _ _ F => gG F rfl rfl rfl rfl (arm_C1 rfl (enters Tryz.func74 rfl rfl) (F.f 10 rfl) (fun va w h1 => c_one1 va Gd w h1 (by omega)) (fun _ _ h => by have h' : RetV _ _ _ _ := h; rw [HG.out] at h'; exact ofV h')).b, ?_⟩
              refine ⟨fun _ _ F => gR rfl rfl (arm_pick rfl (F.f 4 rfl) (fun _ => (F.f 11 rfl)) (fun h => by cases h)).b, ?_⟩
              refine ⟨fun _ _ F => gR rfl rfl (arm_move (.inr rfl) (F.f 12 rfl)).b, ?_⟩
              exact trivial
            intro E' hE gp wp bp G Gs
            obtain rfl : E' = [] := by simpa [subs] using hE
            have e_13 : gp 13 = Value.bool false := G 13 2 _ (by simp) rfl
            clear G Gs hE
            simp only [fValidT14]
            simp only [qA, setD, qZ, qS, e_13]
            refine wpAny_done (by kernel_rfl) ?_ _
            go_wp2_with fail
            go_meet
            case rel => exact ⟨rfl, (V0.mono bp), (hb1.trans (bp.mono hb1.size))⟩
          case rest =>
          clear V0 hb1
          obtain ⟨rfl, V0, hb1⟩ := hcut
          go_wp2
          go_ret
          exact ⟨rfl, hb1⟩
def rValidRT0 (w : World) (L : Nat) (p : Nat) (N : Nat) (q : Nat) : List (Nat × Tmp × Sp) :=
   [(0, 3, .val (Value.pointer (some ⟨w.heap.size, 1, none⟩))),
    (1, 4, .raw L p),
    (2, 5, .val (Value.bool true)),
    (3, 6, .val (Value.bool false)),
    (4, 7, .val (Value.bool false)),
    (5, 8, .val (Value.pointer (some ⟨w.heap.size, 2, none⟩))),
    (6, 9, .raw N q),
    (7, 10, .val (Value.bool false)),
    (8, 11, .val (Value.bool true)),
    (9, 12, .val (Value.bool true)),
    (10, 13, .val (Value.bool true)),
    (11, 14, .val undef),
    (12, 15, .val undef),
    (13, 16, .val undef),
    (14, 17, .val (Value.bool true)),
    (15, 18, .val (Value.bool true)),
    (16, 19, .val undef),
    (17, 20, .val undef),
    (18, 21, .val undef),
    (19, 22, .val undef),
    (20, 23, .val undef),
    (21, 24, .val undef),
    (22, 25, .val undef),
    (23, 26, .val (Value.bool true))]
def rValidRT1 (w : World) (L : Nat) (p : Nat) : List (Nat × Tmp × Sp) :=
   [(0, 3, .val (Value.pointer (some ⟨w.heap.size, 1, none⟩))),
    (1, 4, .raw L p),
    (2, 5, .val (Value.bool false)),
    (3, 6, .val (Value.bool true)),
    (4, 7, .val (Value.bool true)),
    (5, 8, .val undef),
    (6, 9, .val undef),
    (7, 10, .val undef),
    (8, 11, .val undef),
    (9, 12, .val (Value.bool true)),
    (10, 13, .val (Value.bool true)),
    (11, 14, .val undef),
    (12, 15, .val undef),
    (13, 16, .val undef),
    (14, 17, .val (Value.bool true)),
    (15, 18, .val (Value.bool true)),
    (16, 19, .val undef),
    (17, 20, .val undef),
    (18, 21, .val undef),
    (19, 22, .val undef),
    (20, 23, .val undef),
    (21, 24, .val undef),
    (22, 25, .val undef),
    (23, 26, .val (Value.bool true))]
set_option maxHeartbeats 4000000 in
theorem q_rValidR (va : Value) (s : Bool) (L p N q : Nat) (w : World) (ha : IsFR w va s L p N q) (hL : L ≤ 1000000) (hN : N ≤ 1000000) (hne : ¬(nl p = L ∧ nl q = N)) :
    Calls Tryz.prog 23 #[va] w fun e w' => RetV w (.bool false) e w' := by
  by_cases h1 : nl p = L
  · have H1 : Hid (decide (nl p = L) = true) := Lib.hid (decide_eq_true (by omega))
    have H2 : Hid (decide (nl q = N) = false) := Lib.hid (decide_eq_false (by omega))
    clear h1 hne
    obtain ⟨a0, c0, b0, d0, rfl, m0, k0⟩ := boxR ha
    clear ha
    go_enter Tryz.func23, Tryz.ntmps23
    go_upto_region 0 with (fail)
    go_cut [1, 2] (fun s_1 s_2 wx => s_1 = Value.pointer (some ⟨w.heap.size, 0, none⟩) ∧ s_2 = Value.bool false ∧ VarFR wx w.heap.size s L p N q ∧ Below w.heap.size w wx)
    case first =>
      go_wp2_with fail
      go_meet
      case rel => exact ⟨rfl, rfl, k0, m0⟩
    case rest =>
    clear m0 k0
    obtain ⟨rfl, rfl, V0, hb1⟩ := hcut
    go_upto_region 1 with (fail)
    go_cut [26] (fun s_26 wx => s_26 = Value.bool true ∧ VarFR wx w.heap.size s L p N q ∧ Below w.heap.size w wx)
    case first =>
      refine wp_tabGF Tryz.f23 1 (rValidRT0 w L p N q) [] (fun _ => false) 24 0 (by kernel_rfl) (by kernel_rfl) (by kernel_rfl) (by kernel_rfl) (by kernel_rfl) (EachX.of_all (fun _ h => by cases h) _) ?_ ?_
      · refine ⟨fun _ _ F => gR rfl rfl (arm_fieldF rfl (F.k 1 (Value.pointer (some ⟨w.heap.size, 0, none⟩))) (run_field1 _)).b, ?_⟩
        refine ⟨fun _ _ F => gR rfl rfl (arm_loadR1 rfl (F.f 0 rfl) (V0.mono F.below)).b, ?_⟩
        refine ⟨fun _ _ F => gR rfl rfl (arm_C1 rfl (enters Tryz.func41 rfl rfl) (F.f 1 rfl) (fun va w h1 => c_ref_Valid va L p w h1 (by omega)) (fun _ _ h => by have h' : RetV _ _ _ _ := h; rw [H1.out] at h'; exact ofV h')).b, ?_⟩
        refine ⟨fun _ _ F => gR rfl rfl (arm_not rfl (F.f 2 rfl)).b, ?_⟩
        refine ⟨fun _ _ F => gR rfl rfl (arm_move (.inl rfl) (F.f 3 rfl)).b, ?_⟩
        refine ⟨fun _ _ F => gG F rfl rfl rfl rfl (arm_fieldF rfl (F.k 1 (Value.pointer (some ⟨w.heap.size, 0, none⟩))) (run_field2 _)).b, ?_⟩
        refine ⟨fun _ _ F => gG F rfl rfl rfl rfl (arm_loadR2 rfl (F.f 5 rfl) (V0.mono F.below)).b, ?_⟩
        refine ⟨fun _ _ F => gG F rfl rfl rfl rfl (arm_C1 rfl (enters Tryz.func41 rfl rfl) (F.f 6 rfl) (fun va w h1 => c_ref_Valid va N q w h1 (by omega)) (fun _ _ h => by have h' : RetV _ _ _ _ := h; rw [H2.out] at h'; exact ofV h')).b, ?_⟩
        refine ⟨fun _ _ F => gG F rfl rfl rfl rfl (arm_not rfl (F.f 7 rfl)).b, ?_⟩
        refine ⟨fun _ _ F => gR rfl rfl (arm_pick rfl (F.f 4 rfl) (fun h => by cases h) (fun _ => (F.f 8 rfl))).b, ?_⟩
        refine ⟨fun _ _ F => gR rfl rfl (arm_move (.inl rfl) (F.f 9 rfl)).b, ?_⟩
        refine ⟨fun _ _ F => gS F rfl rfl rfl rfl rfl rfl, ?_⟩
        refine ⟨fun _ _ F => gS F rfl rfl rfl rfl rfl rfl, ?_⟩
        refine ⟨fun _ _ F => gS F rfl rfl rfl rfl rfl rfl, ?_⟩
        refine ⟨fun _ _ F => gR rfl rfl (arm_pick rfl (F.f 10 rfl) (fun _ => Is.const) (fun h => by cases h)).b, ?_⟩
        refine ⟨fun _ _ F => gR rfl rfl (arm_move (.inl rfl) (F.f 14 rfl)).b, ?_⟩
        refine ⟨fun _ _ F => gS F rfl rfl rfl rfl rfl rfl, ?_⟩
        refine ⟨fun _ _ F => gS F rfl rfl rfl rfl rfl rfl, ?_⟩
        refine ⟨fun _ _ F => gS F rfl rfl rfl rfl rfl rfl, ?_⟩
        refine ⟨fun _ _ F => gZ F rfl rfl rfl rfl rfl, ?_⟩
        refine ⟨fun _ _ F => gZ F rfl rfl rfl rfl rfl, ?_⟩
        refine ⟨fun _ _ F => gZ F rfl rfl rfl rfl rfl, ?_⟩
        refine ⟨fun _ _ F => gS F rfl rfl rfl rfl rfl rfl, ?_⟩
        refine ⟨fun _ _ F => gR rfl rfl (arm_pick rfl (F.f 15 rfl) (fun _ => Is.const) (fun h => by cases h)).b, ?_⟩
        exact trivial
      intro E' hE gp wp bp G Gs
      obtain rfl : E' = [] := by simpa [subs] using hE
      have e_23 : gp 23 = Value.bool true := G 23 26 _ (by simp) rfl
      clear G Gs hE
      simp only [rValidRT0]
      simp only [qA, setD, qZ, qS, e_23]
      refine wpAny_done (by kernel_rfl) ?_ _
      go_wp2_with fail
      go_meet
      case rel => exact ⟨rfl, (V0.mono bp), (hb1.trans (bp.mono hb1.size))⟩
    case rest =>
    clear V0 hb1
    obtain ⟨rfl, V0, hb1⟩ := hcut
    go_wp2
    go_ret
    exact ⟨rfl, hb1⟩
  · have H1 : Hid (decide (nl p = L) = false) := Lib.hid (decide_eq_false (by omega))
    clear h1 hne
    obtain ⟨a0, c0, b0, d0, rfl, m0, k0⟩ := boxR ha
    clear ha
    go_enter Tryz.func23, Tryz.ntmps23
    go_upto_region 0 with (fail)
    go_cut [1, 2] (fun s_1 s_2 wx => s_1 = Value.pointer (some ⟨w.heap.size, 0, none⟩) ∧ s_2 = Value.bool false ∧ VarFR wx w.heap.size s L p N q ∧ Below w.heap.size w wx)
    case first =>
      go_wp2_with fail
      go_meet
      case rel => exact ⟨rfl, rfl, k0, m0⟩
    case rest =>
    clear m0 k0
    obtain ⟨rfl, rfl, V0, hb1⟩ := hcut
    go_upto_region 1 with (fail)
    go_cut [26] (fun s_26 wx => s_26 = Value.bool true ∧ VarFR wx w.heap.size s L p N q ∧ Below w.heap.size w wx)
    case first =>
      refine wp_tabGF Tryz.f23 1 (rValidRT1 w L p) [] (fun _ => false) 24 0 (by kernel_rfl) (by kernel_rfl) (by kernel_rfl) (by kernel_rfl) (by kernel_rfl) (EachX.of_all (fun _ h => by cases h) _) ?_ ?_
      · refine ⟨fun _ _ F => gR rfl rfl (arm_fieldF rfl (F.k 1 (Value.pointer (some ⟨w.heap.size, 0, none⟩))) (run_field1 _)).b, ?_⟩
        refine ⟨fun _ _ F => gR rfl rfl (arm_loadR1 rfl (F.f 0 rfl) (V0.mono F.below)).b, ?_⟩
        refine ⟨fun _ _ F => gR rfl rfl (arm_C1 rfl (enters Tryz.func41 rfl rfl) (F.f 1 rfl) (fun va w h1 => c_ref_Valid va L p w h1 (by omega)) (fun _ _ h => by have h' : RetV _ _ _ _ := h; rw [H1.out] at h'; exact ofV h')).b, ?_⟩
        refine ⟨fun _ _ F => gR rfl rfl (arm_not rfl (F.f 2 rfl)).b, ?_⟩
        refine ⟨fun _ _ F => gR rfl rfl (arm_move (.inl rfl) (F.f 3 rfl)).b, ?_⟩
        refine ⟨fun _ _ F => gS F rfl rfl rfl rfl rfl rfl, ?_⟩
        refine ⟨fun _ _ F => gS F rfl rfl rfl rfl rfl rfl, ?_⟩
        refine ⟨fun _ _ F => gS F rfl rfl rfl rfl rfl rfl, ?_⟩
        refine ⟨fun _ _ F => gS F rfl rfl rfl rfl rfl rfl, ?_⟩
        refine ⟨fun _ _ F => gR rfl rfl (arm_pick rfl (F.f 4 rfl) (fun _ => Is.const) (fun h => by cases h)).b, ?_⟩
        refine ⟨fun _ _ F => gR rfl rfl (arm_move (.inl rfl) (F.f 9 rfl)).b, ?_⟩
        refine ⟨fun _ _ F => gS F rfl rfl rfl rfl rfl rfl, ?_⟩
        refine ⟨fun _ _ F => gS F rfl rfl rfl rfl rfl rfl, ?_⟩
        refine ⟨fun _ _ F => gS F rfl rfl rfl rfl rfl rfl, ?_⟩
        refine ⟨fun _ _ F => gR rfl rfl (arm_pick rfl (F.f 10 rfl) (fun _ => Is.const) (fun h => by cases h)).b, ?_⟩
        refine ⟨fun _ _ F => gR rfl rfl (arm_move (.inl rfl) (F.f 14 rfl)).b, ?_⟩
        refine ⟨fun _ _ F => gS F rfl rfl rfl rfl rfl rfl, ?_⟩
        refine ⟨fun _ _ F => gS F rfl rfl rfl rfl rfl rfl, ?_⟩
        refine ⟨fun _ _ F => gS F rfl rfl rfl rfl rfl rfl, ?_⟩
        refine ⟨fun _ _ F => gZ F rfl rfl rfl rfl rfl, ?_⟩
        refine ⟨fun _ _ F => gZ F rfl rfl rfl rfl rfl, ?_⟩
        refine ⟨fun _ _ F => gZ F rfl rfl rfl rfl rfl, ?_⟩
        refine ⟨fun _ _ F => gS F rfl rfl rfl rfl rfl rfl, ?_⟩
        refine ⟨fun _ _ F => gR rfl rfl (arm_pick rfl (F.f 15 rfl) (fun _ => Is.const) (fun h => by cases h)).b, ?_⟩
        exact trivial
      intro E' hE gp wp bp G Gs
      obtain rfl : E' = [] := by simpa [subs] using hE
      have e_23 : gp 23 = Value.bool true := G 23 26 _ (by simp) rfl
      clear G Gs hE
      simp only [rValidRT1]
      simp only [qA, setD, qZ, qS, e_23]
      refine wpAny_done (by kernel_rfl) ?_ _
      go_wp2_with fail
      go_meet
      case rel => exact ⟨rfl, (V0.mono bp), (hb1.trans (bp.mono hb1.size))⟩
    case rest =>
    clear V0 hb1
    obtain ⟨rfl, V0, hb1⟩ := hcut
    go_wp2
    go_ret
    exact ⟨rfl, hb1⟩
def rValidT0 (w : World) (xp : Nat) (xq : Nat) : List (Nat × Tmp × Sp) :=
   [(0, 3, .val (Value.pointer (some ⟨w.heap.size, 1, none⟩))),
    (1, 4, .nat (xp)),
    (2, 5, .val (Value.bool true)),
    (3, 6, .val (Value.bool false)),
    (4, 7, .val (Value.bool false)),
    (5, 8, .val (Value.pointer (some ⟨w.heap.size, 2, none⟩))),
    (6, 9, .nat (xq)),
    (7, 10, .val (Value.bool true)),
    (8, 11, .val (Value.bool false)),
    (9, 12, .val (Value.bool false)),
    (10, 13, .val (Value.bool false)),
    (11, 14, .val (Value.pointer (some ⟨w.heap.size, 2, none⟩))),
    (12, 15, .nat (xq)),
    (13, 16, .val (Value.bool true)),
    (14, 17, .val (Value.bool true)),
    (15, 18, .val (Value.bool true)),
    (16, 19, .val undef),
    (17, 20, .val undef),
    (18, 21, .val undef),
    (19, 22, .val undef),
    (20, 23, .val undef),
    (21, 24, .val undef),
    (22, 25, .val undef),
    (23, 26, .val (Value.bool true))]
def rValidT1 (w : World) (xp : Nat) (xq : Nat) : List (Nat × Tmp × Sp) :=
   [(0, 3, .val (Value.pointer (some ⟨w.heap.size, 1, none⟩))),
    (1, 4, .nat (xp)),
    (2, 5, .val (Value.bool true)),
    (3, 6, .val (Value.bool false)),
    (4, 7, .val (Value.bool false)),
    (5, 8, .val (Value.pointer (some ⟨w.heap.size, 2, none⟩))),
    (6, 9, .nat (xq)),
    (7, 10, .val (Value.bool true)),
    (8, 11, .val (Value.bool false)),
    (9, 12, .val (Value.bool false)),
    (10, 13, .val (Value.bool false)),
    (11, 14, .val (Value.pointer (some ⟨w.heap.size, 2, none⟩))),
    (12, 15, .nat (xq)),
    (13, 16, .val (Value.bool false)),
    (14, 17, .val (Value.bool false)),
    (15, 18, .val (Value.bool false)),
    (16, 19, .val (Value.pointer (some ⟨w.heap.size, 0, none⟩))),
    (17, 20, .val (Value.bool true)),
    (18, 21, .val (Value.bool true)),
    (19, 22, .val (Value.pointer (some ⟨w.heap.size, 1, none⟩))),
    (20, 23, .nat (xp)),
    (21, 24, .val (Value.bool true)),
    (22, 25, .val (Value.bool true)),
    (23, 26, .val (Value.bool true))]
def rValidT2 (w : World) (xp : Nat) (xq : Nat) : List (Nat × Tmp × Sp) :=
   [(0, 3, .val (Value.pointer (some ⟨w.heap.size, 1, none⟩))),
    (1, 4, .nat (xp)),
    (2, 5, .val (Value.bool true)),
    (3, 6, .val (Value.bool false)),
    (4, 7, .val (Value.bool false)),
    (5, 8, .val (Value.pointer (some ⟨w.heap.size, 2, none⟩))),
    (6, 9, .nat (xq)),
    (7, 10, .val (Value.bool true)),
    (8, 11, .val (Value.bool false)),
    (9, 12, .val (Value.bool false)),
    (10, 13, .val (Value.bool false)),
    (11, 14, .val (Value.pointer (some ⟨w.heap.size, 2, none⟩))),
    (12, 15, .nat (xq)),
    (13, 16, .val (Value.bool false)),
    (14, 17, .val (Value.bool false)),
    (15, 18, .val (Value.bool false)),
    (16, 19, .val (Value.pointer (some ⟨w.heap.size, 0, none⟩))),
    (17, 20, .val (Value.bool true)),
    (18, 21, .val (Value.bool true)),
    (19, 22, .val (Value.pointer (some ⟨w.heap.size, 1, none⟩))),
    (20, 23, .nat (xp)),
    (21, 24, .val (Value.bool false)),
    (22, 25, .val (Value.bool false)),
    (23, 26, .val (Value.bool false))]
def rValidT3 (w : World) (xp : Nat) (xq : Nat) (Gd : Nat) : List (Nat × Tmp × Sp) :=
   [(0, 27, .val (Value.pointer (some ⟨w.heap.size, 1, none⟩))),
    (1, 28, .nat (xp)),
    (2, 29, .val (Value.pointer (some ⟨w.heap.size, 2, none⟩))),
    (3, 30, .nat (xq)),
    (4, 31, .nat (Gd)),
    (5, 32, .nat (1)),
    (6, 33, .val (Value.bool true)),
    (7, 2, .val (Value.bool true))]
def rValidT4 (w : World) (xp : Nat) (xq : Nat) : List (Nat × Tmp × Sp) :=
   [(0, 3, .val (Value.pointer (some ⟨w.heap.size, 1, none⟩))),
    (1, 4, .nat (xp)),
    (2, 5, .val (Value.bool true)),
    (3, 6, .val (Value.bool false)),
    (4, 7, .val (Value.bool false)),
    (5, 8, .val (Value.pointer (some ⟨w.heap.size, 2, none⟩))),
    (6, 9, .nat (xq)),
    (7, 10, .val (Value.bool true)),
    (8, 11, .val (Value.bool false)),
    (9, 12, .val (Value.bool false)),
    (10, 13, .val (Value.bool false)),
    (11, 14, .val (Value.pointer (some ⟨w.heap.size, 2, none⟩))),
    (12, 15, .nat (xq)),
    (13, 16, .val (Value.bool false)),
    (14, 17, .val (Value.bool false)),
    (15, 18, .val (Value.bool false)),
    (16, 19, .val (Value.pointer (some ⟨w.heap.size, 0, none⟩))),
    (17, 20, .val (Value.bool true)),
    (18, 21, .val (Value.bool true)),
    (19, 22, .val (Value.pointer (some ⟨w.heap.size, 1, none⟩))),
    (20, 23, .nat (xp)),
    (21, 24, .val (Value.bool false)),
    (22, 25, .val (Value.bool false)),
    (23, 26, .val (Value.bool false))]
def rValidT5 (w : World) (xp : Nat) (xq : Nat) (Gd : Nat) : List (Nat × Tmp × Sp) :=
   [(0, 27, .val (Value.pointer (some ⟨w.heap.size, 1, none⟩))),
    (1, 28, .nat (xp)),
    (2, 29, .val (Value.pointer (some ⟨w.heap.size, 2, none⟩))),
    (3, 30, .nat (xq)),
    (4, 31, .nat (Gd)),
    (5, 32, .nat (1)),
    (6, 33, .val (Value.bool false)),
    (7, 2, .val (Value.bool false))]
def rValidT6 (w : World) (xp : Nat) (xq : Nat) : List (Nat × Tmp × Sp) :=
   [(0, 3, .val (Value.pointer (some ⟨w.heap.size, 1, none⟩))),
    (1, 4, .nat (xp)),
    (2, 5, .val (Value.bool true)),
    (3, 6, .val (Value.bool false)),
    (4, 7, .val (Value.bool false)),
    (5, 8, .val (Value.pointer (some ⟨w.heap.size, 2, none⟩))),
    (6, 9, .nat (xq)),
    (7, 10, .val (Value.bool true)),
    (8, 11, .val (Value.bool false)),
    (9, 12, .val (Value.bool false)),
    (10, 13, .val (Value.bool false)),
    (11, 14, .val (Value.pointer (some ⟨w.heap.size, 2, none⟩))),
    (12, 15, .nat (xq)),
    (13, 16, .val (Value.bool false)),
    (14, 17, .val (Value.bool false)),
    (15, 18, .val (Value.bool false)),
    (16, 19, .val (Value.pointer (some ⟨w.heap.size, 0, none⟩))),
    (17, 20, .val (Value.bool false)),
    (18, 21, .val (Value.bool false)),
    (19, 22, .val undef),
    (20, 23, .val undef),
    (21, 24, .val undef),
    (22, 25, .val (Value.bool false)),
    (23, 26, .val (Value.bool false))]
def rValidT7 (w : World) (xp : Nat) (xq : Nat) (Gd : Nat) : List (Nat × Tmp × Sp) :=
   [(0, 27, .val (Value.pointer (some ⟨w.heap.size, 1, none⟩))),
    (1, 28, .nat (xp)),
    (2, 29, .val (Value.pointer (some ⟨w.heap.size, 2, none⟩))),
    (3, 30, .nat (xq)),
    (4, 31, .nat (Gd)),
    (5, 32, .nat (1)),
    (6, 33, .val (Value.bool true)),
    (7, 2, .val (Value.bool true))]
def rValidT8 (w : World) (xp : Nat) (xq : Nat) : List (Nat × Tmp × Sp) :=
   [(0, 3, .val (Value.pointer (some ⟨w.heap.size, 1, none⟩))),
    (1, 4, .nat (xp)),
    (2, 5, .val (Value.bool true)),
    (3, 6, .val (Value.bool false)),
    (4, 7, .val (Value.bool false)),
    (5, 8, .val (Value.pointer (some ⟨w.heap.size, 2, none⟩))),
    (6, 9, .nat (xq)),
    (7, 10, .val (Value.bool true)),
    (8, 11, .val (Value.bool false)),
    (9, 12, .val (Value.bool false)),
    (10, 13, .val (Value.bool false)),
    (11, 14, .val (Value.pointer (some ⟨w.heap.size, 2, none⟩))),
    (12, 15, .nat (xq)),
    (13, 16, .val (Value.bool false)),
    (14, 17, .val (Value.bool false)),
    (15, 18, .val (Value.bool false)),
    (16, 19, .val (Value.pointer (some ⟨w.heap.size, 0, none⟩))),
    (17, 20, .val (Value.bool false)),
    (18, 21, .val (Value.bool false)),
    (19, 22, .val undef),
    (20, 23, .val undef),
    (21, 24, .val undef),
    (22, 25, .val (Value.bool false)),
    (23, 26, .val (Value.bool false))]
def rValidT9 (w : World) (xp : Nat) (xq : Nat) (Gd : Nat) : List (Nat × Tmp × Sp) :=
   [(0, 27, .val (Value.pointer (some ⟨w.heap.size, 1, none⟩))),
    (1, 28, .nat (xp)),
    (2, 29, .val (Value.pointer (some ⟨w.heap.size, 2, none⟩))),
    (3, 30, .nat (xq)),
    (4, 31, .nat (Gd)),
    (5, 32, .nat (1)),
    (6, 33, .val (Value.bool false)),
    (7, 2, .val (Value.bool false))]
def rValidT10 (w : World) (xp : Nat) (xq : Nat) : List (Nat × Tmp × Sp) :=
   [(0, 3, .val (Value.pointer (some ⟨w.heap.size, 1, none⟩))),
    (1, 4, .nat (xp)),
    (2, 5, .val (Value.bool true)),
    (3, 6, .val (Value.bool false)),
    (4, 7, .val (Value.bool false)),
    (5, 8, .val (Value.pointer (some ⟨w.heap.size, 2, none⟩))),
    (6, 9, .nat (xq)),
    (7, 10, .val (Value.bool true)),
    (8, 11, .val (Value.bool false)),
    (9, 12, .val (Value.bool false)),
    (10, 13, .val (Value.bool false)),
    (11, 14, .val (Value.pointer (some ⟨w.heap.size, 2, none⟩))),
    (12, 15, .nat (xq)),
    (13, 16, .val (Value.bool false)),
    (14, 17, .val (Value.bool false)),
    (15, 18, .val (Value.bool false)),
    (16, 19, .val (Value.pointer (some ⟨w.heap.size, 0, none⟩))),
    (17, 20, .val (Value.bool false)),
    (18, 21, .val (Value.bool false)),
    (19, 22, .val undef),
    (20, 23, .val undef),
    (21, 24, .val undef),
    (22, 25, .val (Value.bool false)),
    (23, 26, .val (Value.bool false))]
def rValidT11 (w : World) (xp : Nat) (xq : Nat) (Gd : Nat) : List (Nat × Tmp × Sp) :=
   [(0, 27, .val (Value.pointer (some ⟨w.heap.size, 1, none⟩))),
    (1, 28, .nat (xp)),
    (2, 29, .val (Value.pointer (some ⟨w.heap.size, 2, none⟩))),
    (3, 30, .nat (xq)),
    (4, 31, .nat (Gd)),
    (5, 32, .nat (1)),
    (6, 33, .val (Value.bool true)),
    (7, 2, .val (Value.bool true))]
def rValidT12 (w : World) (xp : Nat) (xq : Nat) : List (Nat × Tmp × Sp) :=
   [(0, 3, .val (Value.pointer (some ⟨w.heap.size, 1, none⟩))),
    (1, 4, .nat (xp)),
    (2, 5, .val (Value.bool true)),
    (3, 6, .val (Value.bool false)),
    (4, 7, .val (Value.bool false)),
    (5, 8, .val (Value.pointer (some ⟨w.heap.size, 2, none⟩))),
    (6, 9, .nat (xq)),
    (7, 10, .val (Value.bool true)),
    (8, 11, .val (Value.bool false)),
    (9, 12, .val (Value.bool false)),
    (10, 13, .val (Value.bool false)),
    (11, 14, .val (Value.pointer (some ⟨w.heap.size, 2, none⟩))),
    (12, 15, .nat (xq)),
    (13, 16, .val (Value.bool false)),
    (14, 17, .val (Value.bool false)),
    (15, 18, .val (Value.bool false)),
    (16, 19, .val (Value.pointer (some ⟨w.heap.size, 0, none⟩))),
    (17, 20, .val (Value.bool false)),
    (18, 21, .val (Value.bool false)),
    (19, 22, .val undef),
    (20, 23, .val undef),
    (21, 24, .val undef),
    (22, 25, .val (Value.bool false)),
    (23, 26, .val (Value.bool false))]
def rValidT13 (w : World) (xp : Nat) (xq : Nat) (Gd : Nat) : List (Nat × Tmp × Sp) :=
   [(0, 27, .val (Value.pointer (some ⟨w.heap.size, 1, none⟩))),
    (1, 28, .nat (xp)),
    (2, 29, .val (Value.pointer (some ⟨w.heap.size, 2, none⟩))),
    (3, 30, .nat (xq)),
    (4, 31, .nat (Gd)),
    (5, 32, .nat (1)),
    (6, 33, .val (Value.bool false)),
    (7, 2, .val (Value.bool false))]
set_option maxHeartbeats 4000000 in
theorem q_rValid (va : Value) (x : Fq) (w : World) (ha : IsQ w va x) (hp : nl x.p ≤ 1000000) (hq : nl x.q ≤ 1000000) :
    Calls Tryz.prog 23 #[va] w fun e w' => RetV w (.bool x.valid) e w' := by
  obtain ⟨xs, xp, xq⟩ := x
  have bp : nl xp ≤ 1000000 := hp
  have bq : nl xq ≤ 1000000 := hq
  by_cases h0 : xq = 0
  · have hv : (Fq.mk xs xp xq).valid = false := decide_eq_false (fun h => h.1 h0)
    have H0 : Hid (decide (xq = 0) = true) := Lib.hid (decide_eq_true h0)
    rw [hv]
    clear hv h0
    obtain ⟨a0, c0, b0, d0, rfl, m0, k0⟩ := boxF ha
    clear ha
    go_enter Tryz.func23, Tryz.ntmps23
    go_upto_region 0 with (fail)
    go_cut [1, 2] (fun s_1 s_2 wx => s_1 = Value.pointer (some ⟨w.heap.size, 0, none⟩) ∧ s_2 = Value.bool false ∧ VarQ wx w.heap.size (Fq.mk xs xp xq) ∧ Below w.heap.size w wx)
    case first =>
      go_wp2_with fail
      go_meet
      case rel => exact ⟨rfl, rfl, k0, m0⟩
    case rest =>
    clear m0 k0
    obtain ⟨rfl, rfl, V0, hb1⟩ := hcut
    go_upto_region 1 with (fail)
    go_cut [26] (fun s_26 wx => s_26 = Value.bool true ∧ VarQ wx w.heap.size (Fq.mk xs xp xq) ∧ Below w.heap.size w wx)
    case first =>
      refine wp_tabGF Tryz.f23 1 (rValidT0 w xp xq) [] (fun _ => false) 24 0 (by kernel_rfl) (by kernel_rfl) (by kernel_rfl) (by kernel_rfl) (by kernel_rfl) (EachX.of_all (fun _ h => by cases h) _) ?_ ?_
      · refine ⟨fun _ _ F => gR rfl rfl (arm_fieldF rfl (F.k 1 (Value.pointer (some ⟨w.heap.size, 0, none⟩))) (run_field1 _)).b, ?_⟩
        refine ⟨fun _ _ F => gR rfl rfl (arm_load1 rfl (F.f 0 rfl) (V0.mono F.below)).b, ?_⟩
        refine ⟨fun _ _ F => gR rfl rfl (arm_C1 rfl (enters Tryz.func41 rfl rfl) (F.f 1 rfl) (fun va w h1 => c_ref_Valid va (nl xp) xp w h1 (by omega)) (fun _ _ h => by have h' : RetV _ _ _ _ := h; rw [decide_eq_true (Eq.refl (nl xp))] at h'; exact ofV h')).b, ?_⟩
        refine ⟨fun _ _ F => gR rfl rfl (arm_not rfl (F.f 2 rfl)).b, ?_⟩
        refine ⟨fun _ _ F => gR rfl rfl (arm_move (.inl rfl) (F.f 3 rfl)).b, ?_⟩
        refine ⟨fun _ _ F => gG F rfl rfl rfl rfl (arm_fieldF rfl (F.k 1 (Value.pointer (some ⟨w.heap.size, 0, none⟩))) (run_field2 _)).b, ?_⟩
        refine ⟨fun _ _ F => gG F rfl rfl rfl rfl (arm_load2 rfl (F.f 5 rfl) (V0.mono F.below)).b, ?_⟩
        refine ⟨fun _ _ F => gG F rfl rfl rfl rfl (arm_C1 rfl (enters Tryz.func41 rfl rfl) (F.f 6 rfl) (fun va w h1 => c_ref_Valid va (nl xq) xq w h1 (by omega)) (fun _ _ h => by have h' : RetV _ _ _ _ := h; rw [decide_eq_true (Eq.refl (nl xq))] at h'; exact ofV h')).b, ?_⟩
        refine ⟨fun _ _ F => gG F rfl rfl rfl rfl (arm_not rfl (F.f 7 rfl)).b, ?_⟩
        refine ⟨fun _ _ F => gR rfl rfl (arm_pick rfl (F.f 4 rfl) (fun h => by cases h) (fun _ => (F.f 8 rfl))).b, ?_⟩
        refine ⟨fun _ _ F => gR rfl rfl (arm_move (.inl rfl) (F.f 9 rfl)).b, ?_⟩
        refine ⟨fun _ _ F => gG F rfl rfl rfl rfl (arm_fieldF rfl (F.k 1 (Value.pointer (some ⟨w.heap.size, 0, none⟩))) (run_field2 _)).b, ?_⟩
        refine ⟨fun _ _ F => gG F rfl rfl rfl rfl (arm_load2 rfl (F.f 11 rfl) (V0.mono F.below)).b, ?_⟩
        refine ⟨fun _ _ F => gG F rfl rfl rfl rfl (arm_C1 rfl (enters Tryz.func42 rfl rfl) (F.f 12 rfl) (fun va w h1 => c_zero va xq w h1 (Nat.le_trans bq (by decide))) (fun _ _ h => by have h' : RetV _ _ _ _ := h; rw [H0.out] at h'; exact ofV h')).b, ?_⟩
        refine ⟨fun _ _ F => gR rfl rfl (arm_pick rfl (F.f 10 rfl) (fun h => by cases h) (fun _ => (F.f 13 rfl))).b, ?_⟩
        refine ⟨fun _ _ F => gR rfl rfl (arm_move (.inl rfl) (F.f 14 rfl)).b, ?_⟩
        refine ⟨fun _ _ F => gS F rfl rfl rfl rfl rfl rfl, ?_⟩
        refine ⟨fun _ _ F => gS F rfl rfl rfl rfl rfl rfl, ?_⟩
        refine ⟨fun _ _ F => gS F rfl rfl rfl rfl rfl rfl, ?_⟩
        refine ⟨fun _ _ F => gZ F rfl rfl rfl rfl rfl, ?_⟩
        refine ⟨fun _ _ F => gZ F rfl rfl rfl rfl rfl, ?_⟩
        refine ⟨fun _ _ F => gZ F rfl rfl rfl rfl rfl, ?_⟩
        refine ⟨fun _ _ F => gS F rfl rfl rfl rfl rfl rfl, ?_⟩
        refine ⟨fun _ _ F => gR rfl rfl (arm_pick rfl (F.f 15 rfl) (fun _ => Is.const) (fun h => by cases h)).b, ?_⟩
        exact trivial
      intro E' hE gp wp bp G Gs
      obtain rfl : E' = [] := by simpa [subs] using hE
      have e_23 : gp 23 = Value.bool true := G 23 26 _ (by simp) rfl
      clear G Gs hE
      simp only [rValidT0]
      simp only [qA, setD, qZ, qS, e_23]
      refine wpAny_done (by kernel_rfl) ?_ _
      go_wp2_with fail
      go_meet
      case rel => exact ⟨rfl, (V0.mono bp), (hb1.trans (bp.mono hb1.size))⟩
    case rest =>
    clear V0 hb1
    obtain ⟨rfl, V0, hb1⟩ := hcut
    go_wp2
    go_ret
    exact ⟨rfl, hb1⟩
  · have H0 : Hid (decide (xq = 0) = false) := Lib.hid (decide_eq_false h0)
    have HN : Hid (xq ≠ 0) := Lib.hid h0
    clear h0
    obtain ⟨Gd, hGd⟩ : ∃ N : Nat, Hid (N = Nat.gcd xp xq) := ⟨_, Lib.hid rfl⟩
    have bg : nl Gd ≤ 1000000 := by rw [hGd.out]; exact Nat.le_trans (nl_mono (Nat.gcd_le_right xp (Nat.pos_of_ne_zero HN.out))) bq
    rcases Bool.eq_false_or_eq_true xs with rfl | rfl
    · by_cases hz : xp = 0
      · have HZ : Hid (decide (xp = 0) = true) := Lib.hid (decide_eq_true hz)
        have hv : (Fq.mk true xp xq).valid = false := decide_eq_false (fun h => h.2.1 ⟨rfl, hz⟩)
        rw [hv]
        clear hv hz
        obtain ⟨a0, c0, b0, d0, rfl, m0, k0⟩ := boxF ha
        clear ha
        go_enter Tryz.func23, Tryz.ntmps23
        go_upto_region 0 with (fail)
        go_cut [1, 2] (fun s_1 s_2 wx => s_1 = Value.pointer (some ⟨w.heap.size, 0, none⟩) ∧ s_2 = Value.bool false ∧ VarQ wx w.heap.size (Fq.mk true xp xq) ∧ Below w.heap.size w wx)
        case first =>
          go_wp2_with fail
          go_meet
          case rel => exact ⟨rfl, rfl, k0, m0⟩
        case rest =>
        clear m0 k0
        obtain ⟨rfl, rfl, V0, hb1⟩ := hcut
        go_upto_region 1 with (fail)
        go_cut [26] (fun s_26 wx => s_26 = Value.bool true ∧ VarQ wx w.heap.size (Fq.mk true xp xq) ∧ Below w.heap.size w wx)
        case first =>
          refine wp_tabGF Tryz.f23 1 (rValidT1 w xp xq) [] (fun _ => false) 24 0 (by kernel_rfl) (by kernel_rfl) (by kernel_rfl) (by kernel_rfl) (by kernel_rfl) (EachX.of_all (fun _ h => by cases h) _) ?_ ?_
          · refine ⟨fun _ _ F => gR rfl rfl (arm_fieldF rfl (F.k 1 (Value.pointer (some ⟨w.heap.size, 0, none⟩))) (run_field1 _)).b, ?_⟩
            refine ⟨fun _ _ F => gR rfl rfl (arm_load1 rfl (F.f 0 rfl) (V0.mono F.below)).b, ?_⟩
            refine ⟨fun _ _ F => gR rfl rfl (arm_C1 rfl (enters Tryz.func41 rfl rfl) (F.f 1 rfl) (fun va w h1 => c_ref_Valid va (nl xp) xp w h1 (by omega)) (fun _ _ h => by have h' : RetV _ _ _ _ := h; rw [decide_eq_true (Eq.refl (nl xp))] at h'; exact ofV h')).b, ?_⟩
            refine ⟨fun _ _ F => gR rfl rfl (arm_not rfl (F.f 2 rfl)).b, ?_⟩
            refine ⟨fun _ _ F => gR rfl rfl (arm_move (.inl rfl) (F.f 3 rfl)).b, ?_⟩
            refine ⟨fun _ _ F => gG F rfl rfl rfl rfl (arm_fieldF rfl (F.k 1 (Value.pointer (some ⟨w.heap.size, 0, none⟩))) (run_field2 _)).b, ?_⟩
            refine ⟨fun _ _ F => gG F rfl rfl rfl rfl (arm_load2 rfl (F.f 5 rfl) (V0.mono F.below)).b, ?_⟩
            refine ⟨fun _ _ F => gG F rfl rfl rfl rfl (arm_C1 rfl (enters Tryz.func41 rfl rfl) (F.f 6 rfl) (fun va w h1 => c_ref_Valid va (nl xq) xq w h1 (by omega)) (fun _ _ h => by have h' : RetV _ _ _ _ := h; rw [decide_eq_true (Eq.refl (nl xq))] at h'; exact ofV h')).b, ?_⟩
            refine ⟨fun _ _ F => gG F rfl rfl rfl rfl (arm_not rfl (F.f 7 rfl)).b, ?_⟩
            refine ⟨fun _ _ F => gR rfl rfl (arm_pick rfl (F.f 4 rfl) (fun h => by cases h) (fun _ => (F.f 8 rfl))).b, ?_⟩
            refine ⟨fun _ _ F => gR rfl rfl (arm_move (.inl rfl) (F.f 9 rfl)).b, ?_⟩
            refine ⟨fun _ _ F => gG F rfl rfl rfl rfl (arm_fieldF rfl (F.k 1 (Value.pointer (some ⟨w.heap.size, 0, none⟩))) (run_field2 _)).b, ?_⟩
            refine ⟨fun _ _ F => gG F rfl rfl rfl rfl (arm_load2 rfl (F.f 11 rfl) (V0.mono F.below)).b, ?_⟩
            refine ⟨fun _ _ F => gG F rfl rfl rfl rfl (arm_C1 rfl (enters Tryz.func42 rfl rfl) (F.f 12 rfl) (fun va w h1 => c_zero va xq w h1 (Nat.le_trans bq (by decide))) (fun _ _ h => by have h' : RetV _ _ _ _ := h; rw [H0.out] at h'; exact ofV h')).b, ?_⟩
            refine ⟨fun _ _ F => gR rfl rfl (arm_pick rfl (F.f 10 rfl) (fun h => by cases h) (fun _ => (F.f 13 rfl))).b, ?_⟩
            refine ⟨fun _ _ F => gR rfl rfl (arm_move (.inl rfl) (F.f 14 rfl)).b, ?_⟩
            refine ⟨fun _ _ F => gG F rfl rfl rfl rfl (arm_fieldF rfl (F.k 1 (Value.pointer (some ⟨w.heap.size, 0, none⟩))) (run_field0 _)).b, ?_⟩
            refine ⟨fun _ _ F => gG F rfl rfl rfl rfl (arm_loadS rfl (F.f 16 rfl) (V0.mono F.below)).b, ?_⟩
            refine ⟨fun _ _ F => gG F rfl rfl rfl rfl (arm_move (.inl rfl) (F.f 17 rfl)).b, ?_⟩
            refine ⟨fun _ _ F => gG F rfl rfl rfl rfl (arm_fieldF rfl (F.k 1 (Value.pointer (some ⟨w.heap.size, 0, none⟩))) (run_field1 _)).b, ?_⟩
            refine ⟨fun _ _ F => gG F rfl rfl rfl rfl (arm_load1 rfl (F.f 19 rfl) (V0.mono F.below)).b, ?_⟩
            refine ⟨fun _ _ F => gG F rfl rfl rfl rfl (arm_C1 rfl (enters Tryz.func42 rfl rfl) (F.f 20 rfl) (fun va w h1 => c_zero va xp w h1 (Nat.le_trans bp (by decide))) (fun _ _ h => by have h' : RetV _ _ _ _ := h; rw [HZ.out] at h'; exact ofV h')).b, ?_⟩
            refine ⟨fun _ _ F => gG F rfl rfl rfl rfl (arm_pick rfl (F.f 18 rfl) (fun _ => (F.f 21 rfl)) (fun h => by cases h)).b, ?_⟩
            refine ⟨fun _ _ F => gR rfl rfl (arm_pick rfl (F.f 15 rfl) (fun h => by cases h) (fun _ => (F.f 22 rfl))).b, ?_⟩
            exact trivial
          intro E' hE gp wp bp G Gs
          obtain rfl : E' = [] := by simpa [subs] using hE
          have e_23 : gp 23 = Value.bool true := G 23 26 _ (by simp) rfl
          clear G Gs hE
          simp only [rValidT1]
          simp only [qA, setD, qZ, qS, e_23]
          refine wpAny_done (by kernel_rfl) ?_ _
          go_wp2_with fail
          go_meet
          case rel => exact ⟨rfl, (V0.mono bp), (hb1.trans (bp.mono hb1.size))⟩
        case rest =>
        clear V0 hb1
        obtain ⟨rfl, V0, hb1⟩ := hcut
        go_wp2
        go_ret
        exact ⟨rfl, hb1⟩
      · have HZ : Hid (decide (xp = 0) = false) := Lib.hid (decide_eq_false hz)
        by_cases hg : Gd = 1
        · have HG : Hid (decide (Gd = 1) = true) := Lib.hid (decide_eq_true hg)
          have hv : (Fq.mk true xp xq).valid = true := decide_eq_true ⟨HN.out, fun h => absurd h.2 hz, by rw [← hg]; exact hGd.out.symm⟩
          rw [hv]
          clear hv hz hg
          obtain ⟨a0, c0, b0, d0, rfl, m0, k0⟩ := boxF ha
          clear ha
          go_enter Tryz.func23, Tryz.ntmps23
          go_upto_region 0 with (fail)
          go_cut [1, 2] (fun s_1 s_2 wx => s_1 = Value.pointer (some ⟨w.heap.size, 0, none⟩) ∧ s_2 = Value.bool false ∧ VarQ wx w.heap.size (Fq.mk true xp xq) ∧ Below w.heap.size w wx)
          case first =>
            go_wp2_with fail
            go_meet
            case rel => exact ⟨rfl, rfl, k0, m0⟩
          case rest =>
          clear m0 k0
          obtain ⟨rfl, rfl, V0, hb1⟩ := hcut
          go_upto_region 1 with (fail)
          go_cut [26] (fun s_26 wx => s_26 = Value.bool false ∧ VarQ wx w.heap.size (Fq.mk true xp xq) ∧ Below w.heap.size w wx)
          case first =>
            refine wp_tabGF Tryz.f23 1 (rValidT2 w xp xq) [] (fun _ => false) 24 0 (by kernel_rfl) (by kernel_rfl) (by kernel_rfl) (by kernel_rfl) (by kernel_rfl) (EachX.of_all (fun _ h => by cases h) _) ?_ ?_
            · refine ⟨fun _ _ F => gR rfl rfl (arm_fieldF rfl (F.k 1 (Value.pointer (some ⟨w.heap.size, 0, none⟩))) (run_field1 _)).b, ?_⟩
              refine ⟨fun _ _ F => gR rfl rfl (arm_load1 rfl (F.f 0 rfl) (V0.mono F.below)).b, ?_⟩
              refine ⟨fun _ _ F => gR rfl rfl (arm_C1 rfl (enters Tryz.func41 rfl rfl) (F.f 1 rfl) (fun va w h1 => c_ref_Valid va (nl xp) xp w h1 (by omega)) (fun _ _ h => by have h' : RetV _ _ _ _ := h; rw [decide_eq_true (Eq.refl (nl xp))] at h'; exact ofV h')).b, ?_⟩
              refine ⟨fun _ _ F => gR rfl rfl (arm_not rfl (F.f 2 rfl)).b, ?_⟩
              refine ⟨fun _ _ F => gR rfl rfl (arm_move (.inl rfl) (F.f 3 rfl)).b, ?_⟩
              refine ⟨fun _ _ F => gG F rfl rfl rfl rfl (arm_fieldF rfl (F.k 1 (Value.pointer (some ⟨w.heap.size, 0, none⟩))) (run_field2 _)).b, ?_⟩
              refine ⟨fun _ _ F => gG F rfl rfl rfl rfl (arm_load2 rfl (F.f 5 rfl) (V0.mono F.below)).b, ?_⟩
              refine ⟨fun _ _ F => gG F rfl rfl rfl rfl (arm_C1 rfl (enters Tryz.func41 rfl rfl) (F.f 6 rfl) (fun va w h1 => c_ref_Valid va (nl xq) xq w h1 (by omega)) (fun _ _ h => by have h' : RetV _ _ _ _ := h; rw [decide_eq_true (Eq.refl (nl xq))] at h'; exact ofV h')).b, ?_⟩
              refine ⟨fun _ _ F => gG F rfl rfl rfl rfl (arm_not rfl (F.f 7 rfl)).b, ?_⟩
              refine ⟨fun _ _ F => gR rfl rfl (arm_pick rfl (F.f 4 rfl) (fun h => by cases h) (fun _ => (F.f 8 rfl))).b, ?_⟩
              refine ⟨fun _ _ F => gR rfl rfl (arm_move (.inl rfl) (F.f 9 rfl)).b, ?_⟩
              refine ⟨fun _ _ F => gG F rfl rfl rfl rfl (arm_fieldF rfl (F.k 1 (Value.pointer (some ⟨w.heap.size, 0, none⟩))) (run_field2 _)).b, ?_⟩
              refine ⟨fun _ _ F => gG F rfl rfl rfl rfl (arm_load2 rfl (F.f 11 rfl) (V0.mono F.below)).b, ?_⟩
              refine ⟨fun _ _ F => gG F rfl rfl rfl rfl (arm_C1 rfl (enters Tryz.func42 rfl rfl) (F.f 12 rfl) (fun va w h1 => c_zero va xq w h1 (Nat.le_trans bq (by decide))) (fun _ _ h => by have h' : RetV _ _ _ _ := h; rw [H0.out] at h'; exact ofV h')).b, ?_⟩
              refine ⟨fun _ _ F => gR rfl rfl (arm_pick rfl (F.f 10 rfl) (fun h => by cases h) (fun _ => (F.f 13 rfl))).b, ?_⟩
              refine ⟨fun _ _ F => gR rfl rfl (arm_move (.inl rfl) (F.f 14 rfl)).b, ?_⟩
              refine ⟨fun _ _ F => gG F rfl rfl rfl rfl (arm_fieldF rfl (F.k 1 (Value.pointer (some ⟨w.heap.size, 0, none⟩))) (run_field0 _)).b, ?_⟩
              refine ⟨fun _ _ F => gG F rfl rfl rfl rfl (arm_loadS rfl (F.f 16 rfl) (V0.mono F.below)).b, ?_⟩
              refine ⟨fun _ _ F => gG F rfl rfl rfl rfl (arm_move (.inl rfl) (F.f 17 rfl)).b, ?_⟩
              refine ⟨fun _ _ F => gG F rfl rfl rfl rfl (arm_fieldF rfl (F.k 1 (Value.pointer (some ⟨w.heap.size, 0, none⟩))) (run_field1 _)).b, ?_⟩
              refine ⟨fun _ _ F => gG F rfl rfl rfl rfl (arm_load1 rfl (F.f 19 rfl) (V0.mono F.below)).b, ?_⟩
              refine ⟨fun _ _ F => gG F rfl rfl rfl rfl (arm_C1 rfl (enters Tryz.func42 rfl rfl) (F.f 20 rfl) (fun va w h1 => c_zero va xp w h1 (Nat.le_trans bp (by decide))) (fun _ _ h => by have h' : RetV _ _ _ _ := h; rw [HZ.out] at h'; exact ofV h')).b, ?_⟩
              refine ⟨fun _ _ F => gG F rfl rfl rfl rfl (arm_pick rfl (F.f 18 rfl) (fun _ => (F.f 21 rfl)) (fun h => by cases h)).b, ?_⟩
              refine ⟨fun _ _ F => gR rfl rfl (arm_pick rfl (F.f 15 rfl) (fun h => by cases h) (fun _ => (F.f 22 rfl))).b, ?_⟩
              exact trivial
            intro E' hE gp wp bp G Gs
            obtain rfl : E' = [] := by simpa [subs] using hE
            have e_23 : gp 23 = Value.bool false := G 23 26 _ (by simp) rfl
            clear G Gs hE
            simp only [rValidT2]
            simp only [qA, setD, qZ, qS, e_23]
            refine wpAny_done (by kernel_rfl) ?_ _
            go_wp2_with fail
            go_meet
            case rel => exact ⟨rfl, (V0.mono bp), (hb1.trans (bp.mono hb1.size))⟩
          case rest =>
          clear V0 hb1
          obtain ⟨rfl, V0, hb1⟩ := hcut
          go_upto_region 3 with (fail)
          go_cut [2] (fun s_2 wx => s_2 = Value.bool true ∧ VarQ wx w.heap.size (Fq.mk true xp xq) ∧ Below w.heap.size w wx)
          case first =>
            refine wp_tabGF Tryz.f23 3 (rValidT3 w xp xq Gd) [] (fun _ => false) 6 0 (by kernel_rfl) (by kernel_rfl) (by kernel_rfl) (by kernel_rfl) (by kernel_rfl) (EachX.of_all (fun _ h => by cases h) _) ?_ ?_
            · refine ⟨fun _ _ F => gR rfl rfl (arm_fieldF rfl (F.k 1 (Value.pointer (some ⟨w.heap.size, 0, none⟩))) (run_field1 _)).b, ?_⟩
              refine ⟨fun _ _ F => gR rfl rfl (arm_load1 rfl (F.f 0 rfl) (V0.mono F.below)).b, ?_⟩
              refine ⟨fun _ _ F => gR rfl rfl (arm_fieldF rfl (F.k 1 (Value.pointer (some ⟨w.heap.size, 0, none⟩))) (run_field2 _)).b, ?_⟩
              refine ⟨fun _ _ F => gR rfl rfl (arm_load2 rfl (F.f 2 rfl) (V0.mono F.below)).b, ?_⟩
              refine ⟨fun _ _ F => gR rfl rfl (arm_C2 rfl (enters Tryz.func43 rfl rfl) (F.f 1 rfl) (F.f 3 rfl) (fun va vb w h1 h2 => c_ref_Gcd va vb xp xq w h1 h2 (Nat.le_trans bp (by decide)) (Nat.le_trans bq (by decide))) (fun _ _ h => by rw [hGd.out]; exact ofN h)).b, ?_⟩
              refine ⟨fun _ _ F => gR rfl rfl (arm_C1 rfl (enters Tryz.func44 rfl rfl) Is.const (fun va w h1 => by have e_va : va = _ := h1; subst e_va; exact c_ref_Of 1 w (by decide)) (fun _ _ h => ofNew h)).b, ?_⟩
              refine ⟨fun _ _ F => gR rfl rfl (arm_C2 rfl (enters Tryz.func36 rfl rfl) (F.f 4 rfl) (F.f 5 rfl) (fun va vb w h1 h2 => c_ref_Same va vb Gd 1 w h1 h2 (by omega) (by decide)) (fun _ _ h => by have h' : RetV _ _ _ _ := h; rw [HG.out] at h'; exact ofV h')).b, ?_⟩
              refine ⟨fun _ _ F => gR rfl rfl (arm_move (.inr rfl) (F.f 6 rfl)).b, ?_⟩
              exact trivial
            intro E' hE gp wp bp G Gs
            obtain rfl : E' = [] := by simpa [subs] using hE
            have e_7 : gp 7 = Value.bool true := G 7 2 _ (by simp) rfl
            clear G Gs hE
            simp only [rValidT3]
            simp only [qA, setD, qZ, qS, e_7]
            refine wpAny_done (by kernel_rfl) ?_ _
            go_wp2_with fail
            go_meet
            case rel => exact ⟨rfl, (V0.mono bp), (hb1.trans (bp.mono hb1.size))⟩
          case rest =>
          clear V0 hb1
          obtain ⟨rfl, V0, hb1⟩ := hcut
          go_wp2
          go_ret
          exact ⟨rfl, hb1⟩
        · have HG : Hid (decide (Gd = 1) = false) := Lib.hid (decide_eq_false hg)
          have hv : (Fq.mk true xp xq).valid = false := decide_eq_false (fun h => hg (by rw [hGd.out]; exact h.2.2))
          rw [hv]
          clear hv hz hg
          obtain ⟨a0, c0, b0, d0, rfl, m0, k0⟩ := boxF ha
          clear ha
          go_enter Tryz.func23, Tryz.ntmps23
          go_upto_region 0 with (fail)
          go_cut [1, 2] (fun s_1 s_2 wx => s_1 = Value.pointer (some ⟨w.heap.size, 0, none⟩) ∧ s_2 = Value.bool false ∧ VarQ wx w.heap.size (Fq.mk true xp xq) ∧ Below w.heap.size w wx)
          case first =>
            go_wp2_with fail
            go_meet
            case rel => exact ⟨rfl, rfl, k0, m0⟩
          case rest =>
          clear m0 k0
          obtain ⟨rfl, rfl, V0, hb1⟩ := hcut
          go_upto_region 1 with (fail)
          go_cut [26] (fun s_26 wx => s_26 = Value.bool false ∧ VarQ wx w.heap.size (Fq.mk true xp xq) ∧ Below w.heap.size w wx)
          case first =>
            refine wp_tabGF Tryz.f23 1 (rValidT4 w xp xq) [] (fun _ => false) 24 0 (by kernel_rfl) (by kernel_rfl) (by kernel_rfl) (by kernel_rfl) (by kernel_rfl) (EachX.of_all (fun _ h => by cases h) _) ?_ ?_
            · refine ⟨fun _ _ F => gR rfl rfl (arm_fieldF rfl (F.k 1 (Value.pointer (some ⟨w.heap.size, 0, none⟩))) (run_field1 _)).b, ?_⟩
              refine ⟨fun _ _ F => gR rfl rfl (arm_load1 rfl (F.f 0 rfl) (V0.mono F.below)).b, ?_⟩
              refine ⟨fun _ _ F => gR rfl rfl (arm_C1 rfl (enters Tryz.func41 rfl rfl) (F.f 1 rfl) (fun va w h1 => c_ref_Valid va (nl xp) xp w h1 (by omega)) (fun _ _ h => by have h' : RetV _ _ _ _ := h; rw [decide_eq_true (Eq.refl (nl xp))] at h'; exact ofV h')).b, ?_⟩
              refine ⟨fun _ _ F => gR rfl rfl (arm_not rfl (F.f 2 rfl)).b, ?_⟩
              refine ⟨fun _ _ F => gR rfl rfl (arm_move (.inl rfl) (F.f 3 rfl)).b, ?_⟩
              refine ⟨fun _ _ F => gG F rfl rfl rfl rfl (arm_fieldF rfl (F.k 1 (Value.pointer (some ⟨w.heap.size, 0, none⟩))) (run_field2 _)).b, ?_⟩
              refine ⟨fun _ _ F => gG F rfl rfl rfl rfl (arm_load2 rfl (F.f 5 rfl) (V0.mono F.below)).b, ?_⟩
              refine ⟨fun _ _ F => gG F rfl rfl rfl rfl (arm_C1 rfl (enters Tryz.func41 rfl rfl) (F.f 6 rfl) (fun va w h1 => c_ref_Valid va (nl xq) xq w h1 (by omega)) (fun _ _ h => by have h' : RetV _ _ _ _ := h; rw [decide_eq_true (Eq.refl (nl xq))] at h'; exact ofV h')).b, ?_⟩
              refine ⟨fun _ _ F => gG F rfl rfl rfl rfl (arm_not rfl (F.f 7 rfl)).b, ?_⟩
              refine ⟨fun _ _ F => gR rfl rfl (arm_pick rfl (F.f 4 rfl) (fun h => by cases h) (fun _ => (F.f 8 rfl))).b, ?_⟩
              refine ⟨fun _ _ F => gR rfl rfl (arm_move (.inl rfl) (F.f 9 rfl)).b, ?_⟩
              refine ⟨fun _ _ F => gG F rfl rfl rfl rfl (arm_fieldF rfl (F.k 1 (Value.pointer (some ⟨w.heap.size, 0, none⟩))) (run_field2 _)).b, ?_⟩
              refine ⟨fun _ _ F => gG F rfl rfl rfl rfl (arm_load2 rfl (F.f 11 rfl) (V0.mono F.below)).b, ?_⟩
              refine ⟨fun _ _ F => gG F rfl rfl rfl rfl (arm_C1 rfl (enters Tryz.func42 rfl rfl) (F.f 12 rfl) (fun va w h1 => c_zero va xq w h1 (Nat.le_trans bq (by decide))) (fun _ _ h => by have h' : RetV _ _ _ _ := h; rw [H0.out] at h'; exact ofV h')).b, ?_⟩
              refine ⟨fun _ _ F => gR rfl rfl (arm_pick rfl (F.f 10 rfl) (fun h => by cases h) (fun _ => (F.f 13 rfl))).b, ?_⟩
              refine ⟨fun _ _ F => gR rfl rfl (arm_move (.inl rfl) (F.f 14 rfl)).b, ?_⟩
              refine ⟨fun _ _ F => gG F rfl rfl rfl rfl (arm_fieldF rfl (F.k 1 (Value.pointer (some ⟨w.heap.size, 0, none⟩))) (run_field0 _)).b, ?_⟩
              refine ⟨fun _ _ F => gG F rfl rfl rfl rfl (arm_loadS rfl (F.f 16 rfl) (V0.mono F.below)).b, ?_⟩
              refine ⟨fun _ _ F => gG F rfl rfl rfl rfl (arm_move (.inl rfl) (F.f 17 rfl)).b, ?_⟩
              refine ⟨fun _ _ F => gG F rfl rfl rfl rfl (arm_fieldF rfl (F.k 1 (Value.pointer (some ⟨w.heap.size, 0, none⟩))) (run_field1 _)).b, ?_⟩
              refine ⟨fun _ _ F => gG F rfl rfl rfl rfl (arm_load1 rfl (F.f 19 rfl) (V0.mono F.below)).b, ?_⟩
              refine ⟨fun _ _ F => gG F rfl rfl rfl rfl (arm_C1 rfl (enters Tryz.func42 rfl rfl) (F.f 20 rfl) (fun va w h1 => c_zero va xp w h1 (Nat.le_trans bp (by decide))) (fun _ _ h => by have h' : RetV _ _ _ _ := h; rw [HZ.out] at h'; exact ofV h')).b, ?_⟩
              refine ⟨fun _ _ F => gG F rfl rfl rfl rfl (arm_pick rfl (F.f 18 rfl) (fun _ => (F.f 21 rfl)) (fun h => by cases h)).b, ?_⟩
              refine ⟨fun _ _ F => gR rfl rfl (arm_pick rfl (F.f 15 rfl) (fun h => by cases h) (fun _ => (F.f 22 rfl))).b, ?_⟩
              exact trivial
            intro E' hE gp wp bp G Gs
            obtain rfl : E' = [] := by simpa [subs] using hE
            have e_23 : gp 23 = Value.bool false := G 23 26 _ (by simp) rfl
            clear G Gs hE
            simp only [rValidT4]
            simp only [qA, setD, qZ, qS, e_23]
            refine wpAny_done (by kernel_rfl) ?_ _
            go_wp2_with fail
            go_meet
            case rel => exact ⟨rfl, (V0.mono bp), (hb1.trans (bp.mono hb1.size))⟩
          case rest =>
          clear V0 hb1
          obtain ⟨rfl, V0, hb1⟩ := hcut
          go_upto_region 3 with (fail)
          go_cut [2] (fun s_2 wx => s_2 = Value.bool false ∧ VarQ wx w.heap.size (Fq.mk true xp xq) ∧ Below w.heap.size w wx)
          case first =>
            refine wp_tabGF Tryz.f23 3 (rValidT5 w xp xq Gd) [] (fun _ => false) 6 0 (by kernel_rfl) (by kernel_rfl) (by kernel_rfl) (by kernel_rfl) (by kernel_rfl) (EachX.of_all (fun _ h => by cases h) _) ?_ ?_
            · refine ⟨fun _ _ F => gR rfl rfl (arm_fieldF rfl (F.k 1 (Value.pointer (some ⟨w.heap.size, 0, none⟩))) (run_field1 _)).b, ?_⟩
              refine ⟨fun _ _ F => gR rfl rfl (arm_load1 rfl (F.f 0 rfl) (V0.mono F.below)).b, ?_⟩
              refine ⟨fun _ _ F => gR rfl rfl (arm_fieldF rfl (F.k 1 (Value.pointer (some ⟨w.heap.size, 0, none⟩))) (run_field2 _)).b, ?_⟩
              refine ⟨fun _ _ F => gR rfl rfl (arm_load2 rfl (F.f 2 rfl) (V0.mono F.below)).b, ?_⟩
              refine ⟨fun _ _ F => gR rfl rfl (arm_C2 rfl (enters Tryz.func43 rfl rfl) (F.f 1 rfl) (F.f 3 rfl) (fun va vb w h1 h2 => c_ref_Gcd va vb xp xq w h1 h2 (Nat.le_trans bp (by decide)) (Nat.le_trans bq (by decide))) (fun _ _ h => by rw [hGd.out]; exact ofN h)).b, ?_⟩
              refine ⟨fun _ _ F => gR rfl rfl (arm_C1 rfl (enters Tryz.func44 rfl rfl) Is.const (fun va w h1 => by have e_va : va = _ := h1; subst e_va; exact c_ref_Of 1 w (by decide)) (fun _ _ h => ofNew h)).b, ?_⟩
              refine ⟨fun _ _ F => gR rfl rfl (arm_C2 rfl (enters Tryz.func36 rfl rfl) (F.f 4 rfl) (F.f 5 rfl) (fun va vb w h1 h2 => c_ref_Same va vb Gd 1 w h1 h2 (by omega) (by decide)) (fun _ _ h => by have h' : RetV _ _ _ _ := h; rw [HG.out] at h'; exact ofV h')).b, ?_⟩
              refine ⟨fun _ _ F => gR rfl rfl (arm_move (.inr rfl) (F.f 6 rfl)).b, ?_⟩
              exact trivial
            intro E' hE gp wp bp G Gs
            obtain rfl : E' = [] := by simpa [subs] using hE
            have e_7 : gp 7 = Value.bool false := G 7 2 _ (by simp) rfl
            clear G Gs hE
            simp only [rValidT5]
            simp only [qA, setD, qZ, qS, e_7]
            refine wpAny_done (by kernel_rfl) ?_ _
            go_wp2_with fail
            go_meet
            case rel => exact ⟨rfl, (V0.mono bp), (hb1.trans (bp.mono hb1.size))⟩
          case rest =>
          clear V0 hb1
          obtain ⟨rfl, V0, hb1⟩ := hcut
          go_wp2
          go_ret
          exact ⟨rfl, hb1⟩
    · by_cases hz : xp = 0
      · have HZ : Hid (decide (xp = 0) = true) := Lib.hid (decide_eq_true hz)
        by_cases hg : Gd = 1
        · have HG : Hid (decide (Gd = 1) = true) := Lib.hid (decide_eq_true hg)
          have hv : (Fq.mk false xp xq).valid = true := decide_eq_true ⟨HN.out, fun h => (by have h1 := h.1; cases h1), by rw [← hg]; exact hGd.out.symm⟩
          rw [hv]
          clear hv hz hg
          obtain ⟨a0, c0, b0, d0, rfl, m0, k0⟩ := boxF ha
          clear ha
          go_enter Tryz.func23, Tryz.ntmps23
          go_upto_region 0 with (fail)
          go_cut [1, 2] (fun s_1 s_2 wx => s_1 = Value.pointer (some ⟨w.heap.size, 0, none⟩) ∧ s_2 = Value.bool false ∧ VarQ wx w.heap.size (Fq.mk false xp xq) ∧ Below w.heap.size w wx)
          case first =>
            go_wp2_with fail
            go_meet
            case rel => exact ⟨rfl, rfl, k0, m0⟩
          case rest =>
          clear m0 k0
          obtain ⟨rfl, rfl, V0, hb1⟩ := hcut
          go_upto_region 1 with (fail)
          go_cut [26] (fun s_26 wx => s_26 = Value.bool false ∧ VarQ wx w.heap.size (Fq.mk false xp xq) ∧ Below w.heap.size w wx)
          case first =>
            refine wp_tabGF Tryz.f23 1 (rValidT6 w xp xq) [] (fun _ => false) 24 0 (by kernel_rfl) (by kernel_rfl) (by kernel_rfl) (by kernel_rfl) (by kernel_rfl) (EachX.of_all (fun _ h => by cases h) _) ?_ ?_
            · refine ⟨fun _ _ F => gR rfl rfl (arm_fieldF rfl (F.k 1 (Value.pointer (some ⟨w.heap.size, 0, none⟩))) (run_field1 _)).b, ?_⟩
              refine ⟨fun _ _ F => gR rfl rfl (arm_load1 rfl (F.f 0 rfl) (V0.mono F.below)).b, ?_⟩
              refine ⟨fun _ _ F => gR rfl rfl (arm_C1 rfl (enters Tryz.func41 rfl rfl) (F.f 1 rfl) (fun va w h1 => c_ref_Valid va (nl xp) xp w h1 (by omega)) (fun _ _ h => by have h' : RetV _ _ _ _ := h; rw [decide_eq_true (Eq.refl (nl xp))] at h'; exact ofV h')).b, ?_⟩
              refine ⟨fun _ _ F => gR rfl rfl (arm_not rfl (F.f 2 rfl)).b, ?_⟩
              refine ⟨fun _ _ F => gR rfl rfl (arm_move (.inl rfl) (F.f 3 rfl)).b, ?_⟩
              refine ⟨fun _ _ F => gG F rfl rfl rfl rfl (arm_fieldF rfl (F.k 1 (Value.pointer (some ⟨w.heap.size, 0, none⟩))) (run_field2 _)).b, ?_⟩
              refine ⟨fun _ _ F => gG F rfl rfl rfl rfl (arm_load2 rfl (F.f 5 rfl) (V0.mono F.below)).b, ?_⟩
              refine ⟨fun _ _ F => gG F rfl rfl rfl rfl (arm_C1 rfl (enters Tryz.func41 rfl rfl) (F.f 6 rfl) (fun va w h1 => c_ref_Valid va (nl xq) xq w h1 (by omega)) (fun _ _ h => by have h' : RetV _ _ _ _ := h; rw [decide_eq_true (Eq.refl (nl xq))] at h'; exact ofV h')).b, ?_⟩
              refine ⟨fun _ _ F => gG F rfl rfl rfl rfl (arm_not rfl (F.f 7 rfl)).b, ?_⟩
              refine ⟨fun _ _ F => gR rfl rfl (arm_pick rfl (F.f 4 rfl) (fun h => by cases h) (fun _ => (F.f 8 rfl))).b, ?_⟩
              refine ⟨fun _ _ F => gR rfl rfl (arm_move (.inl rfl) (F.f 9 rfl)).b, ?_⟩
              refine ⟨fun _ _ F => gG F rfl rfl rfl rfl (arm_fieldF rfl (F.k 1 (Value.pointer (some ⟨w.heap.size, 0, none⟩))) (run_field2 _)).b, ?_⟩
              refine ⟨fun _ _ F => gG F rfl rfl rfl rfl (arm_load2 rfl (F.f 11 rfl) (V0.mono F.below)).b, ?_⟩
              refine ⟨fun _ _ F => gG F rfl rfl rfl rfl (arm_C1 rfl (enters Tryz.func42 rfl rfl) (F.f 12 rfl) (fun va w h1 => c_zero va xq w h1 (Nat.le_trans bq (by decide))) (fun _ _ h => by have h' : RetV _ _ _ _ := h; rw [H0.out] at h'; exact ofV h')).b, ?_⟩
              refine ⟨fun _ _ F => gR rfl rfl (arm_pick rfl (F.f 10 rfl) (fun h => by cases h) (fun _ => (F.f 13 rfl))).b, ?_⟩
              refine ⟨fun _ _ F => gR rfl rfl (arm_move (.inl rfl) (F.f 14 rfl)).b, ?_⟩
              refine ⟨fun _ _ F => gG F rfl rfl rfl rfl (arm_fieldF rfl (F.k 1 (Value.pointer (some ⟨w.heap.size, 0, none⟩))) (run_field0 _)).b, ?_⟩
              refine ⟨fun _ _ F => gG F rfl rfl rfl rfl (arm_loadS rfl (F.f 16 rfl) (V0.mono F.below)).b, ?_⟩
              refine ⟨fun _ _ F => gG F rfl rfl rfl rfl (arm_move (.inl rfl) (F.f 17 rfl)).b, ?_⟩
              refine ⟨fun _ _ F => gS F rfl rfl rfl rfl rfl rfl, ?_⟩
              refine ⟨fun _ _ F => gS F rfl rfl rfl rfl rfl rfl, ?_⟩
              refine ⟨fun _ _ F => gS F rfl rfl rfl rfl rfl rfl, ?_⟩
              refine ⟨fun _ _ F => gG F rfl rfl rfl rfl (arm_pick rfl (F.f 18 rfl) (fun h => by cases h) (fun _ => Is.const)).b, ?_⟩
              refine ⟨fun _ _ F => gR rfl rfl (arm_pick rfl (F.f 15 rfl) (fun h => by cases h) (fun _ => (F.f 22 rfl))).b, ?_⟩
              exact trivial
            intro E' hE gp wp bp G Gs
            obtain rfl : E' = [] := by simpa [subs] using hE
            have e_23 : gp 23 = Value.bool false := G 23 26 _ (by simp) rfl
            clear G Gs hE
            simp only [rValidT6]
            simp only [qA, setD, qZ, qS, e_23]
            refine wpAny_done (by kernel_rfl) ?_ _
            go_wp2_with fail
            go_meet
            case rel => exact ⟨rfl, (V0.mono bp), (hb1.trans (bp.mono hb1.size))⟩
          case rest =>
          clear V0 hb1
          obtain ⟨rfl, V0, hb1⟩ := hcut
          go_upto_region 3 with (fail)
          go_cut [2] (fun s_2 wx => s_2 = Value.bool true ∧ VarQ wx w.heap.size (Fq.mk false xp xq) ∧ Below w.heap.size w wx)
          case first =>
            refine wp_tabGF Tryz.f23 3 (rValidT7 w xp xq Gd) [] (fun _ => false) 6 0 (by kernel_rfl) (by kernel_rfl) (by kernel_rfl) (by kernel_rfl) (by kernel_rfl) (EachX.of_all (fun _ h => by cases h) _) ?_ ?_
            · refine ⟨fun _ _ F => gR rfl rfl (arm_fieldF rfl (F.k 1 (Value.pointer (some ⟨w.heap.size, 0, none⟩))) (run_field1 _)).b, ?_⟩
              refine ⟨fun _ _ F => gR rfl rfl (arm_load1 rfl (F.f 0 rfl) (V0.mono F.below)).b, ?_⟩
              refine ⟨fun _ _ F => gR rfl rfl (arm_fieldF rfl (F.k 1 (Value.pointer (some ⟨w.heap.size, 0, none⟩))) (run_field2 _)).b, ?_⟩
              refine ⟨fun _ _ F => gR rfl rfl (arm_load2 rfl (F.f 2 rfl) (V0.mono F.below)).b, ?_⟩
              refine ⟨fun _ _ F => gR rfl rfl (arm_C2 rfl (enters Tryz.func43 rfl rfl) (F.f 1 rfl) (F.f 3 rfl) (fun va vb w h1 h2 => c_ref_Gcd va vb xp xq w h1 h2 (Nat.le_trans bp (by decide)) (Nat.le_trans bq (by decide))) (fun _ _ h => by rw [hGd.out]; exact ofN h)).b, ?_⟩
              refine ⟨fun _ _ F => gR rfl rfl (arm_C1 rfl (enters Tryz.func44 rfl rfl) Is.const (fun va w h1 => by have e_va : va = _ := h1; subst e_va; exact c_ref_Of 1 w (by decide)) (fun _ _ h => ofNew h)).b, ?_⟩
              refine ⟨fun _ _ F => gR rfl rfl (arm_C2 rfl (enters Tryz.func36 rfl rfl) (F.f 4 rfl) (F.f 5 rfl) (fun va vb w h1 h2 => c_ref_Same va vb Gd 1 w h1 h2 (by omega) (by decide)) (fun _ _ h => by have h' : RetV _ _ _ _ := h; rw [HG.out] at h'; exact ofV h')).b, ?_⟩
              refine ⟨fun _ _ F => gR rfl rfl (arm_move (.inr rfl) (F.f 6 rfl)).b, ?_⟩
              exact trivial
            intro E' hE gp wp bp G Gs
            obtain rfl : E' = [] := by simpa [subs] using hE
            have e_7 : gp 7 = Value.bool true := G 7 2 _ (by simp) rfl
            clear G Gs hE
            simp only [rValidT7]
            simp only [qA, setD, qZ, qS, e_7]
            refine wpAny_done (by kernel_rfl) ?_ _
            go_wp2_with fail
            go_meet
            case rel => exact ⟨rfl, (V0.mono bp), (hb1.trans (bp.mono hb1.size))⟩
          case rest =>
          clear V0 hb1
          obtain ⟨rfl, V0, hb1⟩ := hcut
          go_wp2
          go_ret
          exact ⟨rfl, hb1⟩
        · have HG : Hid (decide (Gd = 1) = false) := Lib.hid (decide_eq_false hg)
          have hv : (Fq.mk false xp xq).valid = false := decide_eq_false (fun h => hg (by rw [hGd.out]; exact h.2.2))
          rw [hv]
          clear hv hz hg
          obtain ⟨a0, c0, b0, d0, rfl, m0, k0⟩ := boxF ha
          clear ha
          go_enter Tryz.func23, Tryz.ntmps23
          go_upto_region 0 with (fail)
          go_cut [1, 2] (fun s_1 s_2 wx => s_1 = Value.pointer (some ⟨w.heap.size, 0, none⟩) ∧ s_2 = Value.bool false ∧ VarQ wx w.heap.size (Fq.mk false xp xq) ∧ Below w.heap.size w wx)
          case first =>
            go_wp2_with fail
            go_meet
            case rel => exact ⟨rfl, rfl, k0, m0⟩
          case rest =>
          clear m0 k0
          obtain ⟨rfl, rfl, V0, hb1⟩ := hcut
          go_upto_region 1 with (fail)
          go_cut [26] (fun s_26 wx => s_26 = Value.bool false ∧ VarQ wx w.heap.size (Fq.mk false xp xq) ∧ Below w.heap.size w wx)
          case first =>
            refine wp_tabGF Tryz.f23 1 (rValidT8 w xp xq) [] (fun _ => false) 24 0 (by kernel_rfl) (by kernel_rfl) (by kernel_rfl) (by kernel_rfl) (by kernel_rfl) (EachX.of_all (fun _ h => by cases h) _) ?_ ?_
            · refine ⟨fun _ _ F => gR rfl rfl (arm_fieldF rfl (F.k 1 (Value.pointer (some ⟨w.heap.size, 0, none⟩))) (run_field1 _)).b, ?_⟩
              refine ⟨fun _ _ F => gR rfl rfl (arm_load1 rfl (F.f 0 rfl) (V0.mono F.below)).b, ?_⟩
              refine ⟨fun _ _ F => gR rfl rfl (arm_C1 rfl (enters Tryz.func41 rfl rfl) (F.f 1 rfl) (fun va w h1 => c_ref_Valid va (nl xp) xp w h1 (by omega)) (fun _ _ h => by have h' : RetV _ _ _ _ := h; rw [decide_eq_true (Eq.refl (nl xp))] at h'; exact ofV h')).b, ?_⟩
              refine ⟨fun _ _ F => gR rfl rfl (arm_not rfl (F.f 2 rfl)).b, ?_⟩
              refine ⟨fun _ _ F => gR rfl rfl (arm_move (.inl rfl) (F.f 3 rfl)).b, ?_⟩
              refine ⟨fun _ _ F => gG F rfl rfl rfl rfl (arm_fieldF rfl (F.k 1 (Value.pointer (some ⟨w.heap.size, 0, none⟩))) (run_field2 _)).b, ?_⟩
              refine ⟨fun _ _ F => gG F rfl rfl rfl rfl (arm_load2 rfl (F.f 5 rfl) (V0.mono F.below)).b, ?_⟩
              refine ⟨fun _ _ F => gG F rfl rfl rfl rfl (arm_C1 rfl (enters Tryz.func41 rfl rfl) (F.f 6 rfl) (fun va w h1 => c_ref_Valid va (nl xq) xq w h1 (by omega)) (fun _ _ h => by have h' : RetV _ _ _ _ := h; rw [decide_eq_true (Eq.refl (nl xq))] at h'; exact ofV h')).b, ?_⟩
              refine ⟨fun _ _ F => gG F rfl rfl rfl rfl (arm_not rfl (F.f 7 rfl)).b, ?_⟩
              refine ⟨fun _ _ F => gR rfl rfl (arm_pick rfl (F.f 4 rfl) (fun h => by cases h) (fun _ => (F.f 8 rfl))).b, ?_⟩
              refine ⟨fun _ _ F => gR rfl rfl (arm_move (.inl rfl) (F.f 9 rfl)).b, ?_⟩
              refine ⟨fun _ _ F => gG F rfl rfl rfl rfl (arm_fieldF rfl (F.k 1 (Value.pointer (some ⟨w.heap.size, 0, none⟩))) (run_field2 _)).b, ?_⟩
              refine ⟨fun _ _ F => gG F rfl rfl rfl rfl (arm_load2 rfl (F.f 11 rfl) (V0.mono F.below)).b, ?_⟩
              refine ⟨fun _ _ F => gG F rfl rfl rfl rfl (arm_C1 rfl (enters Tryz.func42 rfl rfl) (F.f 12 rfl) (fun va w h1 => c_zero va xq w h1 (Nat.le_trans bq (by decide))) (fun _ _ h => by have h' : RetV _ _ _ _ := h; rw [H0.out] at h'; exact ofV h')).b, ?_⟩
              refine ⟨fun _ _ F => gR rfl rfl (arm_pick rfl (F.f 10 rfl) (fun h => by cases h) (fun _ => (F.f 13 rfl))).b, ?_⟩
              refine ⟨fun _ _ F => gR rfl rfl (arm_move (.inl rfl) (F.f 14 rfl)).b, ?_⟩
              refine ⟨fun _ _ F => gG F rfl rfl rfl rfl (arm_fieldF rfl (F.k 1 (Value.pointer (some ⟨w.heap.size, 0, none⟩))) (run_field0 _)).b, ?_⟩
              refine ⟨fun _ _ F => gG F rfl rfl rfl rfl (arm_loadS rfl (F.f 16 rfl) (V0.mono F.below)).b, ?_⟩
              refine ⟨fun _ _ F => gG F rfl rfl rfl rfl (arm_move (.inl rfl) (F.f 17 rfl)).b, ?_⟩
              refine ⟨fun _ _ F => gS F rfl rfl rfl rfl rfl rfl, ?_⟩
              refine ⟨fun _ _ F => gS F rfl rfl rfl rfl rfl rfl, ?_⟩
              refine ⟨fun _ _ F => gS F rfl rfl rfl rfl rfl rfl, ?_⟩
              refine ⟨fun _ _ F => gG F rfl rfl rfl rfl (arm_pick rfl (F.f 18 rfl) (fun h => by cases h) (fun _ => Is.const)).b, ?_⟩
              refine ⟨fun _ _ F => gR rfl rfl (arm_pick rfl (F.f 15 rfl) (fun h => by cases h) (fun _ => (F.f 22 rfl))).b, ?_⟩
              exact trivial
            intro E' hE gp wp bp G Gs
            obtain rfl : E' = [] := by simpa [subs] using hE
            have e_23 : gp 23 = Value.bool false := G 23 26 _ (by simp) rfl
            clear G Gs hE
            simp only [rValidT8]
            simp only [qA, setD, qZ, qS, e_23]
            refine wpAny_done (by kernel_rfl) ?_ _
            go_wp2_with fail
            go_meet
            case rel => exact ⟨rfl, (V0.mono bp), (hb1.trans (bp.mono hb1.size))⟩
          case rest =>
          clear V0 hb1
          obtain ⟨rfl, V0, hb1⟩ := hcut
          go_upto_region 3 with (fail)
          go_cut [2] (fun s_2 wx => s_2 = Value.bool false ∧ VarQ wx w.heap.size (Fq.mk false xp xq) ∧ Below w.heap.size w wx)
          case first =>
            refine wp_tabGF Tryz.f23 3 (rValidT9 w xp xq Gd) [] (fun _ => false) 6 0 (by kernel_rfl) (by kernel_rfl) (by kernel_rfl) (by kernel_rfl) (by kernel_rfl) (EachX.of_all (fun _ h => by cases h) _) ?_ ?_
            · refine ⟨fun _ _ F => gR rfl rfl (arm_fieldF rfl (F.k 1 (Value.pointer (some ⟨w.heap.size, 0, none⟩))) (run_field1 _)).b, ?_⟩
              refine ⟨fun _ _ F => gR rfl rfl (arm_load1 rfl (F.f 0 rfl) (V0.mono F.below)).b, ?_⟩
              refine ⟨fun _ _ F => gR rfl rfl (arm_fieldF rfl (F.k 1 (Value.pointer (some ⟨w.heap.size, 0, none⟩))) (run_field2 _)).b, ?_⟩
              refine ⟨fun _ _ F => gR rfl rfl (arm_load2 rfl (F.f 2 rfl) (V0.mono F.below)).b, ?_⟩
              refine ⟨fun _ _ F => gR rfl rfl (arm_C2 rfl (enters Tryz.func43 rfl rfl) (F.f 1 rfl) (F.f 3 rfl) (fun va vb w h1 h2 => c_ref_Gcd va vb xp xq w h1 h2 (Nat.le_trans bp (by decide)) (Nat.le_trans bq (by decide))) (fun _ _ h => by rw [hGd.out]; exact ofN h)).b, ?_⟩
              refine ⟨fun _ _ F => gR rfl rfl (arm_C1 rfl (enters Tryz.func44 rfl rfl) Is.const (fun va w h1 => by have e_va : va = _ := h1; subst e_va; exact c_ref_Of 1 w (by decide)) (fun _ _ h => ofNew h)).b, ?_⟩
              refine ⟨fun _ _ F => gR rfl rfl (arm_C2 rfl (enters Tryz.func36 rfl rfl) (F.f 4 rfl) (F.f 5 rfl) (fun va vb w h1 h2 => c_ref_Same va vb Gd 1 w h1 h2 (by omega) (by decide)) (fun _ _ h => by have h' : RetV _ _ _ _ := h; rw [HG.out] at h'; exact ofV h')).b, ?_⟩
              refine ⟨fun _ _ F => gR rfl rfl (arm_move (.inr rfl) (F.f 6 rfl)).b, ?_⟩
              exact trivial
            intro E' hE gp wp bp G Gs
            obtain rfl : E' = [] := by simpa [subs] using hE
            have e_7 : gp 7 = Value.bool false := G 7 2 _ (by simp) rfl
            clear G Gs hE
            simp only [rValidT9]
            simp only [qA, setD, qZ, qS, e_7]
            refine wpAny_done (by kernel_rfl) ?_ _
            go_wp2_with fail
            go_meet
            case rel => exact ⟨rfl, (V0.mono bp), (hb1.trans (bp.mono hb1.size))⟩
          case rest =>
          clear V0 hb1
          obtain ⟨rfl, V0, hb1⟩ := hcut
          go_wp2
          go_ret
          exact ⟨rfl, hb1⟩
      · have HZ : Hid (decide (xp = 0) = false) := Lib.hid (decide_eq_false hz)
        by_cases hg : Gd = 1
        · have HG : Hid (decide (Gd = 1) = true) := Lib.hid (decide_eq_true hg)
          have hv : (Fq.mk false xp xq).valid = true := decide_eq_true ⟨HN.out, fun h => (by have h1 := h.1; cases h1), by rw [← hg]; exact hGd.out.symm⟩
          rw [hv]
          clear hv hz hg
          obtain ⟨a0, c0, b0, d0, rfl, m0, k0⟩ := boxF ha
          clear ha
          go_enter Tryz.func23, Tryz.ntmps23
          go_upto_region 0 with (fail)
          go_cut [1, 2] (fun s_1 s_2 wx => s_1 = Value.pointer (some ⟨w.heap.size, 0, none⟩) ∧ s_2 = Value.bool false ∧ VarQ wx w.heap.size (Fq.mk false xp xq) ∧ Below w.heap.size w wx)
          case first =>
            go_wp2_with fail
            go_meet
            case rel => exact ⟨rfl, rfl, k0, m0⟩
          case rest =>
          clear m0 k0
          obtain ⟨rfl, rfl, V0, hb1⟩ := hcut
          go_upto_region 1 with (fail)
          go_cut [26] (fun s_26 wx => s_26 = Value.bool false ∧ VarQ wx w.heap.size (Fq.mk false xp xq) ∧ Below w.heap.size w wx)
          case first =>
            refine wp_tabGF Tryz.f23 1 (rValidT10 w xp xq) [] (fun _ => false) 24 0 (by kernel_rfl) (by kernel_rfl) (by kernel_rfl) (by kernel_rfl) (by kernel_rfl) (EachX.of_all (fun _ h => by cases h) _) ?_ ?_
            · refine ⟨fun _ _ F => gR rfl rfl (arm_fieldF rfl (F.k 1 (Value.pointer (some ⟨w.heap.size, 0, none⟩))) (run_field1 _)).b, ?_⟩
              refine ⟨fun _ _ F => gR rfl rfl (arm_load1 rfl (F.f 0 rfl) (V0.mono F.below)).b, ?_⟩
              refine ⟨fun _ _ F => gR rfl rfl (arm_C1 rfl (enters Tryz.func41 rfl rfl) (F.f 1 rfl) (fun va w h1 => c_ref_Valid va (nl xp) xp w h1 (by omega)) (fun _ _ h => by have h' : RetV _ _ _ _ := h; rw [decide_eq_true (Eq.refl (nl xp))] at h'; exact ofV h')).b, ?_⟩
              refine ⟨fun _ _ F => gR rfl rfl (arm_not rfl (F.f 2 rfl)).b, ?_⟩
              refine ⟨fun _ _ F => gR rfl rfl (arm_move (.inl rfl) (F.f 3 rfl)).b, ?_⟩
              refine ⟨fun _ _ F => gG F rfl rfl rfl rfl (arm_fieldF rfl (F.k 1 (Value.pointer (some ⟨w.heap.size, 0, none⟩))) (run_field2 _)).b, ?_⟩
              refine ⟨fun _ _ F => gG F rfl rfl rfl rfl (arm_load2 rfl (F.f 5 rfl) (V0.mono F.below)).b, ?_⟩
              refine ⟨fun _ _ F => gG F rfl rfl rfl rfl (arm_C1 rfl (enters Tryz.func41 rfl rfl) (F.f 6 rfl) (fun va w h1 => c_ref_Valid va (nl xq) xq w h1 (by omega)) (fun _ _ h => by have h' : RetV _ _ _ _ := h; rw [decide_eq_true (Eq.refl (nl xq))] at h'; exact ofV h')).b, ?_⟩
              refine ⟨fun _ _ F => gG F rfl rfl rfl rfl (arm_not rfl (F.f 7 rfl)).b, ?_⟩
              refine ⟨fun _ _ F => gR rfl rfl (arm_pick rfl (F.f 4 rfl) (fun h => by cases h) (fun _ => (F.f 8 rfl))).b, ?_⟩
              refine ⟨fun _ _ F => gR rfl rfl (arm_move (.inl rfl) (F.f 9 rfl)).b, ?_⟩
              refine ⟨fun _ _ F => gG F rfl rfl rfl rfl (arm_fieldF rfl (F.k 1 (Value.pointer (some ⟨w.heap.size, 0, none⟩))) (run_field2 _)).b, ?_⟩
              refine ⟨fun _ _ F => gG F rfl rfl rfl rfl (arm_load2 rfl (F.f 11 rfl) (V0.mono F.below)).b, ?_⟩
              refine ⟨fun _ _ F => gG F rfl rfl rfl rfl (arm_C1 rfl (enters Tryz.func42 rfl rfl) (F.f 12 rfl) (fun va w h1 => c_zero va xq w h1 (Nat.le_trans bq (by decide))) (fun _ _ h => by have h' : RetV _ _ _ _ := h; rw [H0.out] at h'; exact ofV h')).b, ?_⟩
              refine ⟨fun _ _ F => gR rfl rfl (arm_pick rfl (F.f 10 rfl) (fun h => by cases h) (fun _ => (F.f 13 rfl))).b, ?_⟩
              refine ⟨fun _ _ F => gR rfl rfl (arm_move (.inl rfl) (F.f 14 rfl)).b, ?_⟩
              refine ⟨fun _ _ F => gG F rfl rfl rfl rfl (arm_fieldF rfl (F.k 1 (Value.pointer (some ⟨w.heap.size, 0, none⟩))) (run_field0 _)).b, ?_⟩
              refine ⟨fun _ _ F => gG F rfl rfl rfl rfl (arm_loadS rfl (F.f 16 rfl) (V0.mono F.below)).b, ?_⟩
              refine ⟨fun _ _ F => gG F rfl rfl rfl rfl (arm_move (.inl rfl) (F.f 17 rfl)).b, ?_⟩
              refine ⟨fun _ _ F => gS F rfl rfl rfl rfl rfl rfl, ?_⟩
              refine ⟨fun _ _ F => gS F rfl rfl rfl rfl rfl rfl, ?_⟩
              refine ⟨fun _ _ F => gS F rfl rfl rfl rfl rfl rfl, ?_⟩
              refine ⟨fun _ _ F => gG F rfl rfl rfl rfl (arm_pick rfl (F.f 18 rfl) (fun h => by cases h) (fun _ => Is.const)).b, ?_⟩
              refine ⟨fun _ _ F => gR rfl rfl (arm_pick rfl (F.f 15 rfl) (fun h => by cases h) (fun _ => (F.f 22 rfl))).b, ?_⟩
              exact trivial
            intro E' hE gp wp bp G Gs
            obtain rfl : E' = [] := by simpa [subs] using hE
            have e_23 : gp 23 = Value.bool false := G 23 26 _ (by simp) rfl
            clear G Gs hE
            simp only [rValidT10]
            simp only [qA, setD, qZ, qS, e_23]
            refine wpAny_done (by kernel_rfl) ?_ _
            go_wp2_with fail
            go_meet
            case rel => exact ⟨rfl, (V0.mono bp), (hb1.trans (bp.mono hb1.size))⟩
          case rest =>
          clear V0 hb1
          obtain ⟨rfl, V0, hb1⟩ := hcut
          go_upto_region 3 with (fail)
          go_cut [2] (fun s_2 wx => s_2 = Value.bool true ∧ VarQ wx w.heap.size (Fq.mk false xp xq) ∧ Below w.heap.size w wx)
          case first =>
            refine wp_tabGF Tryz.f23 3 (rValidT11 w xp xq Gd) [] (fun _ => false) 6 0 (by kernel_rfl) (by kernel_rfl) (by kernel_rfl) (by kernel_rfl) (by kernel_rfl) (EachX.of_all (fun _ h => by cases h) _) ?_ ?_
            · refine ⟨fun _ _ F => gR rfl rfl (arm_fieldF rfl (F.k 1 (Value.pointer (some ⟨w.heap.size, 0, none⟩))) (run_field1 _)).b, ?_⟩
              refine ⟨fun _ _ F => gR rfl rfl (arm_load1 rfl (F.f 0 rfl) (V0.mono F.below)).b, ?_⟩
              refine ⟨fun _ _ F => gR rfl rfl (arm_fieldF rfl (F.k 1 (Value.pointer (some ⟨w.heap.size, 0, none⟩))) (run_field2 _)).b, ?_⟩
              refine ⟨fun _ _ F => gR rfl rfl (arm_load2 rfl (F.f 2 rfl) (V0.mono F.below)).b, ?_⟩
              refine ⟨fun _ _ F => gR rfl rfl (arm_C2 rfl (enters Tryz.func43 rfl rfl) (F.f 1 rfl) (F.f 3 rfl) (fun va vb w h1 h2 => c_ref_Gcd va vb xp xq w h1 h2 (Nat.le_trans bp (by decide)) (Nat.le_trans bq (by decide))) (fun _ _ h => by rw [hGd.out]; exact ofN h)).b, ?_⟩
              refine ⟨fun _ _ F => gR rfl rfl (arm_C1 rfl (enters Tryz.func44 rfl rfl) Is.const (fun va w h1 => by have e_va : va = _ := h1; subst e_va; exact c_ref_Of 1 w (by decide)) (fun _ _ h => ofNew h)).b, ?_⟩
              refine ⟨fun _ _ F => gR rfl rfl (arm_C2 rfl (enters Tryz.func36 rfl rfl) (F.f 4 rfl) (F.f 5 rfl) (fun va vb w h1 h2 => c_ref_Same va vb Gd 1 w h1 h2 (by omega) (by decide)) (fun _ _ h => by have h' : RetV _ _ _ _ := h; rw [HG.out] at h'; exact ofV h')).b, ?_⟩
              refine ⟨fun _ _ F => gR rfl rfl (arm_move (.inr rfl) (F.f 6 rfl)).b, ?_⟩
              exact trivial
            intro E' hE gp wp bp G Gs
            obtain rfl : E' = [] := by simpa [subs] using hE
            have e_7 : gp 7 = Value.bool true := G 7 2 _ (by simp) rfl
            clear G Gs hE
            simp only [rValidT11]
            simp only [qA, setD, qZ, qS, e_7]
            refine wpAny_done (by kernel_rfl) ?_ _
            go_wp2_with fail
            go_meet
            case rel => exact ⟨rfl, (V0.mono bp), (hb1.trans (bp.mono hb1.size))⟩
          case rest =>
          clear V0 hb1
          obtain ⟨rfl, V0, hb1⟩ := hcut
          go_wp2
          go_ret
          exact ⟨rfl, hb1⟩
        · have HG : Hid (decide (Gd = 1) = false) := Lib.hid (decide_eq_false hg)
          have hv : (Fq.mk false xp xq).valid = false := decide_eq_false (fun h => hg (by rw [hGd.out]; exact h.2.2))
          rw [hv]
          clear hv hz hg
          obtain ⟨a0, c0, b0, d0, rfl, m0, k0⟩ := boxF ha
          clear ha
          go_enter Tryz.func23, Tryz.ntmps23
          go_upto_region 0 with (fail)
          go_cut [1, 2] (fun s_1 s_2 wx => s_1 = Value.pointer (some ⟨w.heap.size, 0, none⟩) ∧ s_2 = Value.bool false ∧ VarQ wx w.heap.size (Fq.mk false xp xq) ∧ Below w.heap.size w wx)
          case first =>
            go_wp2_with fail
            go_meet
            case rel => exact ⟨rfl, rfl, k0, m0⟩
          case rest =>
          clear m0 k0
          obtain ⟨rfl, rfl, V0, hb1⟩ := hcut
          go_upto_region 1 with (fail)
          go_cut [26] (fun s_26 wx => s_26 = Value.bool false ∧ VarQ wx w.heap.size (Fq.mk false xp xq) ∧ Below w.heap.size w wx)
          case first =>
            refine wp_tabGF Tryz.f23 1 (rValidT12 w xp xq) [] (fun _ => false) 24 0 (by kernel_rfl) (by kernel_rfl) (by kernel_rfl) (by kernel_rfl) (by kernel_rfl) (EachX.of_all (fun _ h => by cases h) _) ?_ ?_
            · refine ⟨fun _ _ F => gR rfl rfl (arm_fieldF rfl (F.k 1 (Value.pointer (some ⟨w.heap.size, 0, none⟩))) (run_field1 _)).b, ?_⟩
              refine ⟨fun _ _ F => gR rfl rfl (arm_load1 rfl (F.f 0 rfl) (V0.mono F.below)).b, ?_⟩
              refine ⟨fun _ _ F => gR rfl rfl (arm_C1 rfl (enters Tryz.func41 rfl rfl) (F.f 1 rfl) (fun va w h1 => c_ref_Valid va (nl xp) xp w h1 (by omega)) (fun _ _ h => by have h' : RetV _ _ _ _ := h; rw [decide_eq_true (Eq.refl (nl xp))] at h'; exact ofV h')).b, ?_⟩
              refine ⟨fun _ _ F => gR rfl rfl (arm_not rfl (F.f 2 rfl)).b, ?_⟩
              refine ⟨fun _ _ F => gR rfl rfl (arm_move (.inl rfl) (F.f 3 rfl)).b, ?_⟩
              refine ⟨fun _ _ F => gG F rfl rfl rfl rfl (arm_fieldF rfl (F.k 1 (Value.pointer (some ⟨w.heap.size, 0, none⟩))) (run_field2 _)).b, ?_⟩
              refine ⟨fun _ _ F => gG F rfl rfl rfl rfl (arm_load2 rfl (F.f 5 rfl) (V0.mono F.below)).b, ?_⟩
              refine ⟨fun _ _ F => gG F rfl rfl rfl rfl (arm_C1 rfl (enters Tryz.func41 rfl rfl) (F.f 6 rfl) (fun va w h1 => c_ref_Valid va (nl xq) xq w h1 (by omega)) (fun _ _ h => by have h' : RetV _ _ _ _ := h; rw [decide_eq_true (Eq.refl (nl xq))] at h'; exact ofV h')).b, ?_⟩
              refine ⟨fun _ _ F => gG F rfl rfl rfl rfl (arm_not rfl (F.f 7 rfl)).b, ?_⟩
              refine ⟨fun _ _ F => gR rfl rfl (arm_pick rfl (F.f 4 rfl) (fun h => by cases h) (fun _ => (F.f 8 rfl))).b, ?_⟩
              refine ⟨fun _ _ F => gR rfl rfl (arm_move (.inl rfl) (F.f 9 rfl)).b, ?_⟩
              refine ⟨fun _ _ F => gG F rfl rfl rfl rfl (arm_fieldF rfl (F.k 1 (Value.pointer (some ⟨w.heap.size, 0, none⟩))) (run_field2 _)).b, ?_⟩
              refine ⟨fun _ _ F => gG F rfl rfl rfl rfl (arm_load2 rfl (F.f 11 rfl) (V0.mono F.below)).b, ?_⟩
              refine ⟨fun _ _ F => gG F rfl rfl rfl rfl (arm_C1 rfl (enters Tryz.func42 rfl rfl) (F.f 12 rfl) (fun va w h1 => c_zero va xq w h1 (Nat.le_trans bq (by decide))) (fun _ _ h => by have h' : RetV _ _ _ _ := h; rw [H0.out] at h'; exact ofV h')).b, ?_⟩
              refine ⟨fun _ _ F => gR rfl rfl (arm_pick rfl (F.f 10 rfl) (fun h => by cases h) (fun _ => (F.f 13 rfl))).b, ?_⟩
              refine ⟨fun _ _ F => gR rfl rfl (arm_move (.inl rfl) (F.f 14 rfl)).b, ?_⟩
              refine ⟨fun _ _ F => gG F rfl rfl rfl rfl (arm_fieldF rfl (F.k 1 (Value.pointer (some ⟨w.heap.size, 0, none⟩))) (run_field0 _)).b, ?_⟩
              refine ⟨fun _ _ F => gG F rfl rfl rfl rfl (arm_loadS rfl (F.f 16 rfl) (V0.mono F.below)).b, ?_⟩
              refine ⟨fun _ _ F => gG F rfl rfl rfl rfl (arm_move (.inl rfl) (F.f 17 rfl)).b, ?_⟩
              refine ⟨fun _ _ F => gS F rfl rfl rfl rfl rfl rfl, ?_⟩
              refine ⟨fun _ _ F => gS F rfl rfl rfl rfl rfl rfl, ?_⟩
              refine ⟨fun _ _ F => gS F rfl rfl rfl rfl rfl rfl, ?_⟩
              refine ⟨fun _ _ F => gG F rfl rfl rfl rfl (arm_pick rfl (F.f 18 rfl) (fun h => by cases h) (fun _ => Is.const)).b, ?_⟩
              refine ⟨fun _ _ F => gR rfl rfl (arm_pick rfl (F.f 15 rfl) (fun h => by cases h) (fun _ => (F.f 22 rfl))).b, ?_⟩
              exact trivial
            intro E' hE gp wp bp G Gs
            obtain rfl : E' = [] := by simpa [subs] using hE
            have e_23 : gp 23 = Value.bool false := G 23 26 _ (by simp) rfl
            clear G Gs hE
            simp only [rValidT12]
            simp only [qA, setD, qZ, qS, e_23]
            refine wpAny_done (by kernel_rfl) ?_ _
            go_wp2_with fail
            go_meet
            case rel => exact ⟨rfl, (V0.mono bp), (hb1.trans (bp.mono hb1.size))⟩
          case rest =>
          clear V0 hb1
          obtain ⟨rfl, V0, hb1⟩ := hcut
          go_upto_region 3 with (fail)
          go_cut [2] (fun s_2 wx => s_2 = Value.bool false ∧ VarQ wx w.heap.size (Fq.mk false xp xq) ∧ Below w.heap.size w wx)
          case first =>
            refine wp_tabGF Tryz.f23 3 (rValidT13 w xp xq Gd) [] (fun _ => false) 6 0 (by kernel_rfl) (by kernel_rfl) (by kernel_rfl) (by kernel_rfl) (by kernel_rfl) (EachX.of_all (fun _ h => by cases h) _) ?_ ?_
            · refine ⟨fun _ _ F => gR rfl rfl (arm_fieldF rfl (F.k 1 (Value.pointer (some ⟨w.heap.size, 0, none⟩))) (run_field1 _)).b, ?_⟩
              refine ⟨fun _ _ F => gR rfl rfl (arm_load1 rfl (F.f 0 rfl) (V0.mono F.below)).b, ?_⟩
              refine ⟨fun _ _ F => gR rfl rfl (arm_fieldF rfl (F.k 1 (Value.pointer (some ⟨w.heap.size, 0, none⟩))) (run_field2 _)).b, ?_⟩
              refine ⟨fun _ _ F => gR rfl rfl (arm_load2 rfl (F.f 2 rfl) (V0.mono F.below)).b, ?_⟩
              refine ⟨fun _ _ F => gR rfl rfl (arm_C2 rfl (enters Tryz.func43 rfl rfl) (F.f 1 rfl) (F.f 3 rfl) (fun va vb w h1 h2 => c_ref_Gcd va vb xp xq w h1 h2 (Nat.le_trans bp (by decide)) (Nat.le_trans bq (by decide))) (fun _ _ h => by rw [hGd.out]; exact ofN h)).b, ?_⟩
              refine ⟨fun _ _ F => gR rfl rfl (arm_C1 rfl (enters Tryz.func44 rfl rfl) Is.const (fun va w h1 => by have e_va : va = _ := h1; subst e_va; exact c_ref_Of 1 w (by decide)) (fun _ _ h => ofNew h)).b, ?_⟩
              refine ⟨fun _ _ F => gR rfl rfl (arm_C2 rfl (enters Tryz.func36 rfl rfl) (F.f 4 rfl) (F.f 5 rfl) (fun va vb w h1 h2 => c_ref_Same va vb Gd 1 w h1 h2 (by omega) (by decide)) (fun _ _ h => by have h' : RetV _ _ _ _ := h; rw [HG.out] at h'; exact ofV h')).b, ?_⟩
              refine ⟨fun _ _ F => gR rfl rfl (arm_move (.inr rfl) (F.f 6 rfl)).b, ?_⟩
              exact trivial
            intro E' hE gp wp bp G Gs
            obtain rfl : E' = [] := by simpa [subs] using hE
            have e_7 : gp 7 = Value.bool false := G 7 2 _ (by simp) rfl
            clear G Gs hE
            simp only [rValidT13]
            simp only [qA, setD, qZ, qS, e_7]
            refine wpAny_done (by kernel_rfl) ?_ _
            go_wp2_with fail
            go_meet
            case rel => exact ⟨rfl, (V0.mono bp), (hb1.trans (bp.mono hb1.size))⟩
          case rest =>
          clear V0 hb1
          obtain ⟨rfl, V0, hb1⟩ := hcut
          go_wp2
          go_ret
          exact ⟨rfl, hb1⟩
end Go.Proofs.YtfhinmdhjlmikaaGreatDoor
