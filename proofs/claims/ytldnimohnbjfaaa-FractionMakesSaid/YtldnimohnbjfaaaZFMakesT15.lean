/- The law FractionMakes. -/
import Derived.Test.YtldnimohnbjfaaaP14
namespace Go.Proofs.Ytldnimohnbjfaaa
set_option linter.unusedSimpArgs false
set_option linter.unusedVariables false
set_option maxRecDepth 100000
open Go.RowKit
/-- The input of FractionMakes as a value; in a variable. -/
def IsPt (w : World) (v : Value) (A B : Int) (s : Bool) (L p N q : Nat) : Prop := ∃ a c b d, v = .agg #[.int .i64 A, .int .i64 B, .bool s, .slice a L c, .slice b N d] ∧ IsR w (.agg #[.slice a L c]) L p ∧ IsR w (.agg #[.slice b N d]) N q
theorem IsPt.mono {w w' : World} {v : Value} {A B : Int} {s : Bool} {L p N q : Nat} (h : IsPt w v A B s L p N q) (hb : Below w.heap.size w w') : IsPt w' v A B s L p N q := by
  obtain ⟨a, c, b, d, rfl, h1, h2⟩ := h; exact ⟨a, c, b, d, rfl, h1.mono hb, h2.mono hb⟩
def VarPt (w : World) (g : Nat) (A B : Int) (s : Bool) (L p N q : Nat) : Prop := ∃ a c b d, w.heap[g]? = some (.cells #[.int .i64 A, .int .i64 B, .bool s, .slice a L c, .slice b N d] 36 (0, 0)) ∧ IsR w (.agg #[.slice a L c]) L p ∧ IsR w (.agg #[.slice b N d]) N q
section
variable {w w' : World} {g g' : Nat} {A B : Int} {s : Bool} {L p N q : Nat}
theorem VarPt.lt (h : VarPt w g A B s L p N q) : g < w.heap.size := by obtain ⟨_, _, _, _, h, _⟩ := h; exact (Array.getElem?_eq_some_iff.1 h).1
theorem VarPt.mono (h : VarPt w g A B s L p N q) (hb : Below w.heap.size w w') : VarPt w' g A B s L p N q := by
  have hl := h.lt
  obtain ⟨a, c, b, d, h0, h1, h2⟩ := h; exact ⟨a, c, b, d, (hb.block g hl).trans h0, h1.mono hb, h2.mono hb⟩
theorem VarPt.upd (h : VarPt w g' A B s L p N q) (o : Own w g) (u : Upd w g w') (hn : g' ≠ g) : VarPt w' g' A B s L p N q := by
  obtain ⟨a, c, b, d, h0, h1, h2⟩ := h; exact ⟨a, c, b, d, (u.block g' hn).trans h0, h1.upd o u, h2.upd o u⟩
theorem boxPt {v : Value} (h : IsPt w v A B s L p N q) : ∃ a c b d, v = .agg #[.int .i64 A, .int .i64 B, .bool s, .slice a L c, .slice b N d] ∧
    Below w.heap.size w (w.alloc (.cells #[.int .i64 A, .int .i64 B, .bool s, .slice a L c, .slice b N d] 36)) ∧ VarPt (w.alloc (.cells #[.int .i64 A, .int .i64 B, .bool s, .slice a L c, .slice b N d] 36)) w.heap.size A B s L p N q := by
  obtain ⟨a, c, b, d, rfl, h1, h2⟩ := h
  have hb := bel1 w (.cells #[.int .i64 A, .int .i64 B, .bool s, .slice a L c, .slice b N d] 36)
  exact ⟨a, c, b, d, rfl, hb, a, c, b, d, heap_alloc_new w _, h1.mono hb, h2.mono hb⟩
end
theorem run_fieldP0 (g : Nat) (w : World) : (Instr.fieldAt 36 (.pointer (some ⟨g, 0, none⟩)) 0).run Try.prog w = .ok (.pointer (some ⟨g, 0, none⟩)) w := by go_simp
theorem run_fieldP1 (g : Nat) (w : World) : (Instr.fieldAt 36 (.pointer (some ⟨g, 0, none⟩)) 1).run Try.prog w = .ok (.pointer (some ⟨g, 1, none⟩)) w := by go_simp
theorem run_fieldP2 (g : Nat) (w : World) : (Instr.fieldAt 36 (.pointer (some ⟨g, 0, none⟩)) 2).run Try.prog w = .ok (.pointer (some ⟨g, 2, none⟩)) w := by go_simp
theorem run_fieldP3 (g : Nat) (w : World) : (Instr.fieldAt 36 (.pointer (some ⟨g, 0, none⟩)) 3).run Try.prog w = .ok (.pointer (some ⟨g, 3, none⟩)) w := by go_simp
theorem run_fieldP4 (g : Nat) (w : World) : (Instr.fieldAt 36 (.pointer (some ⟨g, 0, none⟩)) 4).run Try.prog w = .ok (.pointer (some ⟨g, 4, none⟩)) w := by go_simp
theorem run_loadI (g k : Nat) (n : Int) (w : World) (h : w.cell? ⟨g, k, none⟩ = some (.int .i64 n)) : (Instr.loadAt 2 (.pointer (some ⟨g, k, none⟩))).run Try.prog w = .ok (.int .i64 n) w := by go_simp
theorem run_loadBl (g k : Nat) (b : Bool) (w : World) (h : w.cell? ⟨g, k, none⟩ = some (.bool b)) : (Instr.loadAt 4 (.pointer (some ⟨g, k, none⟩))).run Try.prog w = .ok (.bool b) w := by go_simp
section
variable {Q : Exit → Act → World → Prop} {o : Oper} {a : Act} {w : World} {x : Operand} {g L p N q : Nat} {s : Bool} {A B : Int}
theorem arm_fieldP {k : Nat} {u : Value} (ho : o.op = .fieldAddr 36 x k) (hx : Is a w x (.val (.pointer (some ⟨g, 0, none⟩)))) (hr : ∀ w : World, (Instr.fieldAt 36 (.pointer (some ⟨g, 0, none⟩)) k).run Try.prog w = .ok u w) : Arm Try.prog Q o a w (.val u) := by
  have hx' : a.eval x = .pointer (some ⟨g, 0, none⟩) := hx
  refine arm_run u ?_ rfl
  unfold execOp
  rw [ho]
  simp only [hx', Sem.run_bind, hr, Result.andThen, Sem.run_pure]
theorem arm_loadP0 (ho : o.op = .load 2 x) (hx : Is a w x (.val (.pointer (some ⟨g, 0, none⟩)))) (h : VarPt w g A B s L p N q) : Arm Try.prog Q o a w (.val (.int .i64 A)) := by
  obtain ⟨b, c, b', d, h, h1, h2⟩ := h
  have hx' : a.eval x = .pointer (some ⟨g, 0, none⟩) := hx
  have hc : w.cell? ⟨g, 0, none⟩ = some (.int .i64 A) := by rw [cell_of_row w g 0 _ _ (0, 0) h]; rfl
  refine arm_run (.int .i64 A) ?_ rfl
  unfold execOp
  rw [ho]
  simp only [hx', Sem.run_bind, run_loadI _ _ _ w hc, Result.andThen, Sem.run_pure]
theorem arm_loadP1 (ho : o.op = .load 2 x) (hx : Is a w x (.val (.pointer (some ⟨g, 1, none⟩)))) (h : VarPt w g A B s L p N q) : Arm Try.prog Q o a w (.val (.int .i64 B)) := by
  obtain ⟨b, c, b', d, h, h1, h2⟩ := h
  have hx' : a.eval x = .pointer (some ⟨g, 1, none⟩) := hx
  have hc : w.cell? ⟨g, 1, none⟩ = some (.int .i64 B) := by rw [cell_of_row w g 1 _ _ (0, 0) h]; rfl
  refine arm_run (.int .i64 B) ?_ rfl
  unfold execOp
  rw [ho]
  simp only [hx', Sem.run_bind, run_loadI _ _ _ w hc, Result.andThen, Sem.run_pure]
theorem arm_loadP2 (ho : o.op = .load 4 x) (hx : Is a w x (.val (.pointer (some ⟨g, 2, none⟩)))) (h : VarPt w g A B s L p N q) : Arm Try.prog Q o a w (.val (.bool s)) := by
  obtain ⟨b, c, b', d, h, h1, h2⟩ := h
  have hx' : a.eval x = .pointer (some ⟨g, 2, none⟩) := hx
  have hc : w.cell? ⟨g, 2, none⟩ = some (.bool s) := by rw [cell_of_row w g 2 _ _ (0, 0) h]; rfl
  refine arm_run (.bool s) ?_ rfl
  unfold execOp
  rw [ho]
  simp only [hx', Sem.run_bind, run_loadBl _ _ _ w hc, Result.andThen, Sem.run_pure]
theorem arm_loadP3 (ho : o.op = .load 24 x) (hx : Is a w x (.val (.pointer (some ⟨g, 3, none⟩)))) (h : VarPt w g A B s L p N q) : Arm Try.prog Q o a w (.raw L p) := by
  obtain ⟨b, c, b', d, h, h1, h2⟩ := h
  have hx' : a.eval x = .pointer (some ⟨g, 3, none⟩) := hx
  have hc : w.cell? ⟨g, 3, none⟩ = some (.slice b L c) := by rw [cell_of_row w g 3 _ _ (0, 0) h]; rfl
  refine arm_run _ ?_ h1
  unfold execOp
  rw [ho]
  simp only [hx', Sem.run_bind, run_loadN _ _ _ _ _ w hc, Result.andThen, Sem.run_pure]
theorem arm_loadP4 (ho : o.op = .load 24 x) (hx : Is a w x (.val (.pointer (some ⟨g, 4, none⟩)))) (h : VarPt w g A B s L p N q) : Arm Try.prog Q o a w (.raw N q) := by
  obtain ⟨b, c, b', d, h, h1, h2⟩ := h
  have hx' : a.eval x = .pointer (some ⟨g, 4, none⟩) := hx
  have hc : w.cell? ⟨g, 4, none⟩ = some (.slice b' N d) := by rw [cell_of_row w g 4 _ _ (0, 0) h]; rfl
  refine arm_run _ ?_ h2
  unfold execOp
  rw [ho]
  simp only [hx', Sem.run_bind, run_loadN _ _ _ _ _ w hc, Result.andThen, Sem.run_pure]
theorem arm_loadQ3 (ho : o.op = .load 22 x) (hx : Is a w x (.val (.pointer (some ⟨g, 3, none⟩)))) (h : VarPt w g A B s L p N q) : Arm Try.prog Q o a w (.sl L) := by
  obtain ⟨b, c, b', d, h, h1, h2⟩ := h
  have hx' : a.eval x = .pointer (some ⟨g, 3, none⟩) := hx
  have hc : w.cell? ⟨g, 3, none⟩ = some (.slice b L c) := by rw [cell_of_row w g 3 _ _ (0, 0) h]; rfl
  refine arm_run (.slice b L c) ?_ ⟨_, _, rfl⟩
  unfold execOp
  rw [ho]
  simp only [hx', Sem.run_bind, run_loadW _ _ _ _ _ w hc, Result.andThen, Sem.run_pure]
theorem arm_loadQ4 (ho : o.op = .load 22 x) (hx : Is a w x (.val (.pointer (some ⟨g, 4, none⟩)))) (h : VarPt w g A B s L p N q) : Arm Try.prog Q o a w (.sl N) := by
  obtain ⟨b, c, b', d, h, h1, h2⟩ := h
  have hx' : a.eval x = .pointer (some ⟨g, 4, none⟩) := hx
  have hc : w.cell? ⟨g, 4, none⟩ = some (.slice b' N d) := by rw [cell_of_row w g 4 _ _ (0, 0) h]; rfl
  refine arm_run (.slice b' N d) ?_ ⟨_, _, rfl⟩
  unfold execOp
  rw [ho]
  simp only [hx', Sem.run_bind, run_loadW _ _ _ _ _ w hc, Result.andThen, Sem.run_pure]
end
/-- What Ratio answers. -/
def ratioX (v u : Int) : Fq := if u = 0 then Fq.zero else Fq.ratio v u
def ratioC (u : Int) : Int := if u = 0 then 8 else 0
section
variable {v u : Int} (lv : -9223372036854775808 ≤ v) (rv : v < 9223372036854775808) (lu : -9223372036854775808 ≤ u) (ru : u < 9223372036854775808)
include lv rv lu ru
theorem q_fRatioX (w : World) : Calls Try.prog 20 #[.int .i64 v, .int .i64 u] w fun e w' => RetQE w (ratioX v u) (ratioC u) e w' := by
  unfold ratioX ratioC
  by_cases h : u = 0
  · rw [if_pos h, if_pos h]; exact q_fRatio0 v u w lv rv lu ru h
  · rw [if_neg h, if_neg h]; exact q_fRatio v u w lv rv lu ru h
theorem q_rRatioX (w : World) : Calls Try.prog 21 #[.int .i64 v, .int .i64 u] w fun e w' => RetQE w (ratioX v u) (ratioC u) e w' := by
  unfold ratioX ratioC
  by_cases h : u = 0
  · rw [if_pos h, if_pos h]; exact q_rRatio0 v u w lv rv lu ru h
  · rw [if_neg h, if_neg h]; exact q_rRatio v u w lv rv lu ru h
theorem ratioX_nl : nl (ratioX v u).p ≤ 1000000000000 ∧ nl (ratioX v u).q ≤ 1000000000000 := by
  unfold ratioX
  by_cases h : u = 0
  · rw [if_pos h]; exact ⟨by decide, by decide⟩
  · rw [if_neg h]
    have k : (Fq.ratio v u).ok 2 := Fq.ok_low (nl_abs lv rv) (nl_abs lu ru) (by omega)
    exact ⟨Nat.le_trans k.p (by decide), Nat.le_trans k.q (by decide)⟩
end
def lMaT0 (w : World) (A : Int) (B : Int) (base : Nat) : List (Nat × Tmp × Sp) :=
   [(0, 12, .val (Value.pointer (some ⟨w.heap.size, 0, none⟩))),
    (1, 13, .val (Value.int IntKind.i64 A)),
    (2, 14, .val (Value.pointer (some ⟨w.heap.size, 1, none⟩))),
    (3, 15, .val (Value.int IntKind.i64 B)),
    (4, 16, .pair (.fq (ratioX A B)) (.val (Value.int IntKind.i64 (ratioC B)))),
    (5, 11, .pair (.fq (ratioX A B)) (.val (Value.int IntKind.i64 (ratioC B)))),
    (6, 17, .fq (ratioX A B)),
    (7, 18, .val (Value.int IntKind.i64 (ratioC B))),
    (8, 3, .varF base)]
def lMaT1 (w : World) (A : Int) (B : Int) (base : Nat) : List (Nat × Tmp × Sp) :=
   [(0, 20, .val (Value.pointer (some ⟨w.heap.size, 0, none⟩))),
    (1, 21, .val (Value.int IntKind.i64 A)),
    (2, 22, .val (Value.pointer (some ⟨w.heap.size, 1, none⟩))),
    (3, 23, .val (Value.int IntKind.i64 B)),
    (4, 24, .pair (.fq (ratioX A B)) (.val (Value.int IntKind.i64 (ratioC B)))),
    (5, 19, .pair (.fq (ratioX A B)) (.val (Value.int IntKind.i64 (ratioC B)))),
    (6, 25, .fq (ratioX A B)),
    (7, 26, .val (Value.int IntKind.i64 (ratioC B))),
    (8, 5, .varF base)]
def lMaT2 (w : World) (A : Int) (B : Int) : List (Nat × Tmp × Sp) :=
   [(0, 27, .val (Value.int IntKind.i64 (ratioC B))),
    (1, 28, .val (Value.int IntKind.i64 (ratioC B))),
    (2, 29, .val (Value.bool false)),
    (3, 30, .val (Value.bool false)),
    (4, 31, .fq (ratioX A B)),
    (5, 32, .fq (ratioX A B)),
    (6, 33, .val (Value.bool true)),
    (7, 34, .val (Value.bool false)),
    (8, 35, .val (Value.bool false)),
    (9, 36, .val (Value.bool false)),
    (10, 37, .val (Value.pointer (some ⟨w.heap.size, 0, none⟩))),
    (11, 38, .val (Value.int IntKind.i64 A)),
    (12, 39, .fq (Fq.ofInt A)),
    (13, 40, .val (Value.pointer (some ⟨w.heap.size, 0, none⟩))),
    (14, 41, .val (Value.int IntKind.i64 A)),
    (15, 42, .fq (Fq.ofInt A)),
    (16, 43, .val (Value.bool true)),
    (17, 44, .val (Value.bool false)),
    (18, 45, .val (Value.bool false))]
def lMaT3 (w : World) (p : Nat) (q : Nat) : List (Nat × Tmp × Sp) :=
   [(0, 46, .val (Value.pointer (some ⟨w.heap.size, 3, none⟩))),
    (1, 47, .val (Value.pointer (some ⟨w.heap.size, 3, none⟩))),
    (2, 48, .sl (nl p)),
    (3, 49, .val (Value.int IntKind.i64 (nl p : Int))),
    (4, 50, .val (Value.bool false)),
    (5, 51, .val (Value.bool false)),
    (6, 52, .val (Value.pointer (some ⟨w.heap.size, 4, none⟩))),
    (7, 53, .val (Value.pointer (some ⟨w.heap.size, 4, none⟩))),
    (8, 54, .sl (nl q)),
    (9, 55, .val (Value.int IntKind.i64 (nl q : Int))),
    (10, 56, .val (Value.bool false)),
    (11, 57, .val (Value.bool false)),
    (12, 58, .val (Value.bool false)),
    (13, 59, .val (Value.pointer (some ⟨w.heap.size, 3, none⟩))),
    (14, 60, .nat (p)),
    (15, 61, .val (Value.bool true)),
    (16, 62, .val (Value.bool false)),
    (17, 63, .val (Value.bool false)),
    (18, 64, .val (Value.bool false)),
    (19, 65, .val (Value.pointer (some ⟨w.heap.size, 4, none⟩))),
    (20, 66, .nat (q)),
    (21, 67, .val (Value.bool true)),
    (22, 68, .val (Value.bool false)),
    (23, 69, .val (Value.bool false))]
def lMaT4 (w : World) (s : Bool) (p : Nat) (q : Nat) (base : Nat) : List (Nat × Tmp × Sp) :=
   [(0, 72, .val (Value.pointer (some ⟨w.heap.size, 2, none⟩))),
    (1, 73, .val (Value.bool s)),
    (2, 74, .val (Value.pointer (some ⟨w.heap.size, 3, none⟩))),
    (3, 75, .nat (p)),
    (4, 76, .val (Value.pointer (some ⟨w.heap.size, 4, none⟩))),
    (5, 77, .nat (q)),
    (6, 78, .pair (.fq Fq.zero) (.val (Value.int IntKind.i64 8))),
    (7, 71, .pair (.fq Fq.zero) (.val (Value.int IntKind.i64 8))),
    (8, 79, .fq Fq.zero),
    (9, 80, .val (Value.int IntKind.i64 8)),
    (10, 7, .varF base)]
def lMaT5 (w : World) (s : Bool) (p : Nat) (q : Nat) (base : Nat) : List (Nat × Tmp × Sp) :=
   [(0, 82, .val (Value.pointer (some ⟨w.heap.size, 2, none⟩))),
    (1, 83, .val (Value.bool s)),
    (2, 84, .val (Value.pointer (some ⟨w.heap.size, 3, none⟩))),
    (3, 85, .nat (p)),
    (4, 86, .val (Value.pointer (some ⟨w.heap.size, 4, none⟩))),
    (5, 87, .nat (q)),
    (6, 88, .pair (.fq Fq.zero) (.val (Value.int IntKind.i64 8))),
    (7, 81, .pair (.fq Fq.zero) (.val (Value.int IntKind.i64 8))),
    (8, 89, .fq Fq.zero),
    (9, 90, .val (Value.int IntKind.i64 8)),
    (10, 9, .varF base)]
def lMaT6  : List (Nat × Tmp × Sp) :=
   [(0, 91, .val (Value.int IntKind.i64 8)),
    (1, 92, .val (Value.int IntKind.i64 8)),
    (2, 93, .val (Value.bool true)),
    (3, 94, .val (Value.bool true)),
    (4, 95, .fq Fq.zero),
    (5, 96, .fq Fq.zero),
    (6, 97, .val (Value.bool true)),
    (7, 98, .val (Value.bool true)),
    (8, 99, .val (Value.bool true)),
    (9, 100, .val (Value.int IntKind.i64 8)),
    (10, 101, .val (Value.bool true)),
    (11, 102, .val (Value.bool true)),
    (12, 103, .val undef),
    (13, 104, .val undef),
    (14, 105, .val (Value.bool true)),
    (15, 106, .val (Value.bool true)),
    (16, 107, .val (Value.bool true)),
    (17, 108, .val (Value.bool true)),
    (18, 109, .val (Value.bool true)),
    (19, 2, .val (Value.bool true))]
def lMaT7 (w : World) (p : Nat) (q : Nat) : List (Nat × Tmp × Sp) :=
   [(0, 46, .val (Value.pointer (some ⟨w.heap.size, 3, none⟩))),
    (1, 47, .val (Value.pointer (some ⟨w.heap.size, 3, none⟩))),
    (2, 48, .sl (nl p)),
    (3, 49, .val (Value.int IntKind.i64 (nl p : Int))),
    (4, 50, .val (Value.bool false)),
    (5, 51, .val (Value.bool false)),
    (6, 52, .val (Value.pointer (some ⟨w.heap.size, 4, none⟩))),
    (7, 53, .val (Value.pointer (some ⟨w.heap.size, 4, none⟩))),
    (8, 54, .sl (nl q)),
    (9, 55, .val (Value.int IntKind.i64 (nl q : Int))),
    (10, 56, .val (Value.bool false)),
    (11, 57, .val (Value.bool false)),
    (12, 58, .val (Value.bool false)),
    (13, 59, .val (Value.pointer (some ⟨w.heap.size, 3, none⟩))),
    (14, 60, .nat (p)),
    (15, 61, .val (Value.bool true)),
    (16, 62, .val (Value.bool false)),
    (17, 63, .val (Value.bool false)),
    (18, 64, .val (Value.bool false)),
    (19, 65, .val (Value.pointer (some ⟨w.heap.size, 4, none⟩))),
    (20, 66, .nat (q)),
    (21, 67, .val (Value.bool true)),
    (22, 68, .val (Value.bool false)),
    (23, 69, .val (Value.bool false))]
def lMaT8 (w : World) (s : Bool) (p : Nat) (q : Nat) (base : Nat) : List (Nat × Tmp × Sp) :=
   [(0, 72, .val (Value.pointer (some ⟨w.heap.size, 2, none⟩))),
    (1, 73, .val (Value.bool s)),
    (2, 74, .val (Value.pointer (some ⟨w.heap.size, 3, none⟩))),
    (3, 75, .nat (p)),
    (4, 76, .val (Value.pointer (some ⟨w.heap.size, 4, none⟩))),
    (5, 77, .nat (q)),
    (6, 78, .pair (.fq (Fq.low s p q)) (.val (Value.int IntKind.i64 0))),
    (7, 71, .pair (.fq (Fq.low s p q)) (.val (Value.int IntKind.i64 0))),
    (8, 79, .fq (Fq.low s p q)),
    (9, 80, .val (Value.int IntKind.i64 0)),
    (10, 7, .varF base)]
def lMaT9 (w : World) (s : Bool) (p : Nat) (q : Nat) (base : Nat) : List (Nat × Tmp × Sp) :=
   [(0, 82, .val (Value.pointer (some ⟨w.heap.size, 2, none⟩))),
    (1, 83, .val (Value.bool s)),
    (2, 84, .val (Value.pointer (some ⟨w.heap.size, 3, none⟩))),
    (3, 85, .nat (p)),
    (4, 86, .val (Value.pointer (some ⟨w.heap.size, 4, none⟩))),
    (5, 87, .nat (q)),
    (6, 88, .pair (.fq (Fq.low s p q)) (.val (Value.int IntKind.i64 0))),
    (7, 81, .pair (.fq (Fq.low s p q)) (.val (Value.int IntKind.i64 0))),
    (8, 89, .fq (Fq.low s p q)),
    (9, 90, .val (Value.int IntKind.i64 0)),
    (10, 9, .varF base)]
def lMaT10 (s : Bool) (p : Nat) (q : Nat) : List (Nat × Tmp × Sp) :=
   [(0, 91, .val (Value.int IntKind.i64 0)),
    (1, 92, .val (Value.int IntKind.i64 0)),
    (2, 93, .val (Value.bool true)),
    (3, 94, .val (Value.bool true)),
    (4, 95, .fq (Fq.low s p q)),
    (5, 96, .fq (Fq.low s p q)),
    (6, 97, .val (Value.bool true)),
    (7, 98, .val (Value.bool true)),
    (8, 99, .val (Value.bool true)),
    (9, 100, .val (Value.int IntKind.i64 0)),
    (10, 101, .val (Value.bool false)),
    (11, 102, .val (Value.bool false)),
    (12, 103, .fq (Fq.low s p q)),
    (13, 104, .val (Value.bool true)),
    (14, 105, .val (Value.bool true)),
    (15, 106, .val (Value.bool true)),
    (16, 107, .val (Value.bool true)),
    (17, 108, .val (Value.bool true)),
    (18, 109, .val (Value.bool true)),
    (19, 2, .val (Value.bool true))]
def lMaT11 (w : World) (p : Nat) (N : Nat) (q : Nat) : List (Nat × Tmp × Sp) :=
   [(0, 46, .val (Value.pointer (some ⟨w.heap.size, 3, none⟩))),
    (1, 47, .val (Value.pointer (some ⟨w.heap.size, 3, none⟩))),
    (2, 48, .sl (nl p)),
    (3, 49, .val (Value.int IntKind.i64 (nl p : Int))),
    (4, 50, .val (Value.bool false)),
    (5, 51, .val (Value.bool false)),
    (6, 52, .val (Value.pointer (some ⟨w.heap.size, 4, none⟩))),
    (7, 53, .val (Value.pointer (some ⟨w.heap.size, 4, none⟩))),
    (8, 54, .sl N),
    (9, 55, .val (Value.int IntKind.i64 (N : Int))),
    (10, 56, .val (Value.bool false)),
    (11, 57, .val (Value.bool false)),
    (12, 58, .val (Value.bool false)),
    (13, 59, .val (Value.pointer (some ⟨w.heap.size, 3, none⟩))),
    (14, 60, .nat (p)),
    (15, 61, .val (Value.bool true)),
    (16, 62, .val (Value.bool false)),
    (17, 63, .val (Value.bool false)),
    (18, 64, .val (Value.bool false)),
    (19, 65, .val (Value.pointer (some ⟨w.heap.size, 4, none⟩))),
    (20, 66, .raw N q),
    (21, 67, .val (Value.bool false)),
    (22, 68, .val (Value.bool true)),
    (23, 69, .val (Value.bool true))]
def lMaT12  : List (Nat × Tmp × Sp) :=
   [(0, 70, .val (Value.bool true)),
    (1, 2, .val (Value.bool true))]
def lMaT13 (w : World) (L : Nat) (p : Nat) (N : Nat) : List (Nat × Tmp × Sp) :=
   [(0, 46, .val (Value.pointer (some ⟨w.heap.size, 3, none⟩))),
    (1, 47, .val (Value.pointer (some ⟨w.heap.size, 3, none⟩))),
    (2, 48, .sl L),
    (3, 49, .val (Value.int IntKind.i64 (L : Int))),
    (4, 50, .val (Value.bool false)),
    (5, 51, .val (Value.bool false)),
    (6, 52, .val (Value.pointer (some ⟨w.heap.size, 4, none⟩))),
    (7, 53, .val (Value.pointer (some ⟨w.heap.size, 4, none⟩))),
    (8, 54, .sl N),
    (9, 55, .val (Value.int IntKind.i64 (N : Int))),
    (10, 56, .val (Value.bool false)),
    (11, 57, .val (Value.bool false)),
    (12, 58, .val (Value.bool false)),
    (13, 59, .val (Value.pointer (some ⟨w.heap.size, 3, none⟩))),
    (14, 60, .raw L p),
    (15, 61, .val (Value.bool false)),
    (16, 62, .val (Value.bool true)),
    (17, 63, .val (Value.bool true)),
    (18, 64, .val (Value.bool true)),
    (19, 65, .val undef),
    (20, 66, .val undef),
    (21, 67, .val undef),
    (22, 68, .val undef),
    (23, 69, .val (Value.bool true))]
def lMaT14  : List (Nat × Tmp × Sp) :=
   [(0, 70, .val (Value.bool true)),
    (1, 2, .val (Value.bool true))]
def lMaT15 (w : World) (L : Nat) (N : Nat) : List (Nat × Tmp × Sp) :=
   [(0, 46, .val (Value.pointer (some ⟨w.heap.size, 3, none⟩))),
    (1, 47, .val (Value.pointer (some ⟨w.heap.size, 3, none⟩))),
    (2, 48, .sl L),
    (3, 49, .val (Value.int IntKind.i64 (L : Int))),
    (4, 50, .val (Value.bool false)),
    (5, 51, .val (Value.bool false)),
    (6, 52, .val (Value.pointer (some ⟨w.heap.size, 4, none⟩))),
    (7, 53, .val (Value.pointer (some ⟨w.heap.size, 4, none⟩))),
    (8, 54, .sl N),
    (9, 55, .val (Value.int IntKind.i64 (N : Int))),
    (10, 56, .val (Value.bool true)),
    (11, 57, .val (Value.bool true)),
    (12, 58, .val (Value.bool true)),
    (13, 59, .val undef),
    (14, 60, .val undef),
    (15, 61, .val undef),
    (16, 62, .val undef),
    (17, 63, .val (Value.bool true)),
    (18, 64, .val (Value.bool true)),
    (19, 65, .val undef),
    (20, 66, .val undef),
    (21, 67, .val undef),
    (22, 68, .val undef),
    (23, 69, .val (Value.bool true))]
def lMaT16  : List (Nat × Tmp × Sp) :=
   [(0, 70, .val (Value.bool true)),
    (1, 2, .val (Value.bool true))]
def lMaT17 (w : World) (L : Nat) : List (Nat × Tmp × Sp) :=
   [(0, 46, .val (Value.pointer (some ⟨w.heap.size, 3, none⟩))),
    (1, 47, .val (Value.pointer (some ⟨w.heap.size, 3, none⟩))),
    (2, 48, .sl L),
    (3, 49, .val (Value.int IntKind.i64 (L : Int))),
    (4, 50, .val (Value.bool true)),
    (5, 51, .val (Value.bool true)),
    (6, 52, .val undef),
    (7, 53, .val undef),
    (8, 54, .val undef),
    (9, 55, .val undef),
    (10, 56, .val undef),
    (11, 57, .val (Value.bool true)),
    (12, 58, .val (Value.bool true)),
    (13, 59, .val undef),
    (14, 60, .val undef),
    (15, 61, .val undef),
    (16, 62, .val undef),
    (17, 63, .val (Value.bool true)),
    (18, 64, .val (Value.bool true)),
    (19, 65, .val undef),
    (20, 66, .val undef),
    (21, 67, .val undef),
    (22, 68, .val undef),
    (23, 69, .val (Value.bool true))]
def lMaT18  : List (Nat × Tmp × Sp) :=
   [(0, 70, .val (Value.bool true)),
    (1, 2, .val (Value.bool true))]
set_option maxHeartbeats 4000000 in
theorem c_FractionMakes (va : Value) (A B : Int) (s : Bool) (L p N q : Nat) (w : World) (ha : IsPt w va A B s L p N q) (lA : -9223372036854775808 ≤ A) (rA : A < 9223372036854775808) (lB : -9223372036854775808 ≤ B) (rB : B < 9223372036854775808) :
    Calls Try.prog 5 #[va] w fun e w' => RetV w (.bool true) e w' := by
  have bR := ratioX_nl lA rA lB rB
  obtain ⟨a0, c0, b0, d0, rfl, m0, k0⟩ := boxPt ha
  clear ha
  go_enter Try.func5, Try.ntmps5
  go_upto_region 0 with (fail)
  go_cut [1, 2] (fun s_1 s_2 wx => s_1 = Value.pointer (some ⟨w.heap.size, 0, none⟩) ∧ s_2 = Value.bool false ∧ VarPt wx w.heap.size A B s L p N q ∧ Below w.heap.size w wx)
  case first =>
    go_wp2_with fail
    go_meet
    case rel => exact ⟨rfl, rfl, k0, m0⟩
  case rest =>
  clear m0 k0
  obtain ⟨rfl, rfl, V0, hb1⟩ := hcut
  go_upto_region 1 with (fail)
  go_cut [3, 4] (fun s_3 s_4 wx => ∃ g3, s_3 = Value.pointer (some ⟨g3, 0, none⟩) ∧ s_4 = Value.int IntKind.i64 (ratioC B) ∧ w.heap.size + 1 ≤ g3 ∧ VarQ wx g3 (ratioX A B) ∧ VarPt wx w.heap.size A B s L p N q ∧ Below w.heap.size w wx)
  case first =>
    obtain ⟨base, hbase0⟩ : ∃ b : Nat, Hid (b = wc.heap.size) := ⟨_, Lib.hid rfl⟩
    have hbase : base ≤ wc.heap.size := by rw [hbase0.out]; exact Nat.le_refl _
    have hbw : w.heap.size + 1 ≤ base := by have := hb1.size; have h1 := V0.lt; rw [hbase0.out]; omega
    have l_V0 : w.heap.size < base := by rw [hbase0.out]; exact V0.lt
    refine wp_tabGF Try.f5 1 (lMaT0 w A B base) [7] (fun i => i == 8) 7 2 (by kernel_rfl) (by kernel_rfl) (by kernel_rfl) (by kernel_rfl) (by kernel_rfl) ⟨fun h => (by cases h), ⟨fun h => (by cases h), ⟨fun h => (by cases h), ⟨fun h => (by cases h), ⟨fun h => (by cases h), ⟨fun h => (by cases h), ⟨fun h => (by cases h), ⟨fun h => (by cases h), ⟨fun _ w v h => Sp.varF_lt h, trivial⟩⟩⟩⟩⟩⟩⟩⟩⟩ ?_ ?_
    · refine ⟨fun _ _ F => gR rfl rfl (arm_fieldP rfl (F.k 1 (Value.pointer (some ⟨w.heap.size, 0, none⟩))) (run_fieldP0 _)).b, ?_⟩
      refine ⟨fun _ _ F => gR rfl rfl (arm_loadP0 rfl (F.f 0 rfl) (V0.mono F.below)).b, ?_⟩
      refine ⟨fun _ _ F => gR rfl rfl (arm_fieldP rfl (F.k 1 (Value.pointer (some ⟨w.heap.size, 0, none⟩))) (run_fieldP1 _)).b, ?_⟩
      refine ⟨fun _ _ F => gR rfl rfl (arm_loadP1 rfl (F.f 2 rfl) (V0.mono F.below)).b, ?_⟩
      refine ⟨fun _ _ F => gR rfl rfl (arm_C2 rfl (enters Try.func20 rfl rfl) (F.f 1 rfl) (F.f 3 rfl) (fun va vb w h1 h2 => by have e_va : va = _ := h1; subst e_va; have e_vb : vb = _ := h2; subst e_vb; exact q_fRatioX lA rA lB rB w) (fun _ _ h => ofQE h)).b, ?_⟩
      refine ⟨fun _ _ F => gR rfl rfl (arm_move (.inl rfl) (F.f 4 rfl)).b, ?_⟩
      refine ⟨fun _ _ F => gR rfl rfl (arm_pair0 rfl (F.f 5 rfl)).b, ?_⟩
      refine ⟨fun _ _ F => gR rfl rfl (arm_pair1 rfl (F.f 5 rfl)).b, ?_⟩
      refine ⟨fun _ _ F => gR rfl rfl (arm_allocF rfl (Nat.le_trans hbase F.below.size)), ?_⟩
      exact trivial
    intro E' hE gp wp bp G Gs
    simp only [subs, List.map_cons, List.map_nil, List.nil_append, List.cons_append, List.mem_cons, List.not_mem_nil, or_false, List.append_nil] at hE
    rcases hE with rfl | rfl
    · obtain ⟨g3, e_8, lg_8, hv_8⟩ := G 8 3 _ (by simp) rfl
      have n_6 : (Sp.fq (ratioX A B)).p wp (gp 6) := G 6 17 _ (by simp) rfl
      have e_7 : gp 7 = Value.int IntKind.i64 (ratioC B) := G 7 18 _ (by simp) rfl
      clear G Gs
      simp only [lMaT0]
      simp only [qA, setD, qZ, qS, e_8, e_7]
      have T0 := hv_8
      refine wpAny_storeFr (j := 9) (by kernel_rfl) rfl rfl rfl rfl rfl n_6 T0.any ?_
      intro w0 u0 v0
      have O0 := T0.own
      refine wpAny_takeD (i := 10) (d := some 4) (v := Value.int IntKind.i64 (ratioC B)) rfl rfl (by kernel_rfl) (by kernel_rfl) (by kernel_rfl) (fun _ _ _ h => h) (Or.inl ⟨by rfl, fun w => by rfl⟩) ?_
      try simp only [qP, qZ, qS]
      refine wpAny_done (by kernel_rfl) ?_ _
      go_wp2_with fail
      go_meet
      case rel => exact ⟨g3, rfl, rfl, (by omega), v0, ((V0.mono bp).upd O0 u0 (by omega)), (Upd.below (hb1.trans (bp.mono hb1.size)) u0 (by omega))⟩
    · obtain ⟨g3, e_8, lg_8, hv_8⟩ := G 8 3 _ (by simp) rfl
      obtain ⟨x_5_0, x_5_1, e_5, n_5_0, rfl⟩ := G 5 11 _ (by simp) rfl
      have n_6 : (Sp.fq (ratioX A B)).p wp (gp 6) := G 6 17 _ (by simp) rfl
      clear G Gs
      simp only [lMaT0]
      simp only [qA, setD, qZ, qS, e_8, e_5]
      refine wpAny_takeD (i := 7) (d := some 18) (v := Value.int IntKind.i64 (ratioC B)) rfl rfl (by kernel_rfl) (by kernel_rfl) (by kernel_rfl) (fun _ _ _ h => h) (Or.inl ⟨by rfl, fun w => by rfl⟩) ?_
      try simp only [qP, qZ, qS]
      have T0 := hv_8
      refine wpAny_storeFr (j := 9) (by kernel_rfl) rfl rfl rfl rfl rfl n_6 T0.any ?_
      intro w0 u0 v0
      have O0 := T0.own
      refine wpAny_takeD (i := 10) (d := some 4) (v := Value.int IntKind.i64 (ratioC B)) rfl rfl (by kernel_rfl) (by kernel_rfl) (by kernel_rfl) (fun _ _ _ h => h) (Or.inl ⟨by rfl, fun w => by rfl⟩) ?_
      try simp only [qP, qZ, qS]
      refine wpAny_done (by kernel_rfl) ?_ _
      go_wp2_with fail
      go_meet
      case rel => exact ⟨g3, rfl, rfl, (by omega), v0, ((V0.mono bp).upd O0 u0 (by omega)), (Upd.below (hb1.trans (bp.mono hb1.size)) u0 (by omega))⟩
  case rest =>
  clear V0 hb1
  obtain ⟨g3, rfl, rfl, lg3, V3, V0, hb1⟩ := hcut
  go_upto_region 2 with (fail)
  go_cut [5, 6] (fun s_5 s_6 wx => ∃ g5, s_5 = Value.pointer (some ⟨g5, 0, none⟩) ∧ s_6 = Value.int IntKind.i64 (ratioC B) ∧ w.heap.size + 1 ≤ g5 ∧ g3 < g5 ∧ VarQ wx g5 (ratioX A B) ∧ VarPt wx w.heap.size A B s L p N q ∧ VarQ wx g3 (ratioX A B) ∧ Below w.heap.size w wx)
  case first =>
    obtain ⟨base, hbase0⟩ : ∃ b : Nat, Hid (b = wc.heap.size) := ⟨_, Lib.hid rfl⟩
    have hbase : base ≤ wc.heap.size := by rw [hbase0.out]; exact Nat.le_refl _
    have hbw : w.heap.size + 1 ≤ base := by have := hb1.size; have h1 := V0.lt; rw [hbase0.out]; omega
    have l_V0 : w.heap.size < base := by rw [hbase0.out]; exact V0.lt
    have l_V3 : g3 < base := by rw [hbase0.out]; exact V3.lt
    refine wp_tabGF Try.f5 2 (lMaT1 w A B base) [7] (fun i => i == 8) 7 2 (by kernel_rfl) (by kernel_rfl) (by kernel_rfl) (by kernel_rfl) (by kernel_rfl) ⟨fun h => (by cases h), ⟨fun h => (by cases h), ⟨fun h => (by cases h), ⟨fun h => (by cases h), ⟨fun h => (by cases h), ⟨fun h => (by cases h), ⟨fun h => (by cases h), ⟨fun h => (by cases h), ⟨fun _ w v h => Sp.varF_lt h, trivial⟩⟩⟩⟩⟩⟩⟩⟩⟩ ?_ ?_
    · refine ⟨fun _ _ F => gR rfl rfl (arm_fieldP rfl (F.k 1 (Value.pointer (some ⟨w.heap.size, 0, none⟩))) (run_fieldP0 _)).b, ?_⟩
      refine ⟨fun _ _ F => gR rfl rfl (arm_loadP0 rfl (F.f 0 rfl) (V0.mono F.below)).b, ?_⟩
      refine ⟨fun _ _ F => gR rfl rfl (arm_fieldP rfl (F.k 1 (Value.pointer (some ⟨w.heap.size, 0, none⟩))) (run_fieldP1 _)).b, ?_⟩
      refine ⟨fun _ _ F => gR rfl rfl (arm_loadP1 rfl (F.f 2 rfl) (V0.mono F.below)).b, ?_⟩
      refine ⟨fun _ _ F => gR rfl rfl (arm_C2 rfl (enters Try.func21 rfl rfl) (F.f 1 rfl) (F.f 3 rfl) (fun va vb w h1 h2 => by have e_va : va = _ := h1; subst e_va; have e_vb : vb = _ := h2; subst e_vb; exact q_rRatioX lA rA lB rB w) (fun _ _ h => ofQE h)).b, ?_⟩
      refine ⟨fun _ _ F => gR rfl rfl (arm_move (.inl rfl) (F.f 4 rfl)).b, ?_⟩
      refine ⟨fun _ _ F => gR rfl rfl (arm_pair0 rfl (F.f 5 rfl)).b, ?_⟩
      refine ⟨fun _ _ F => gR rfl rfl (arm_pair1 rfl (F.f 5 rfl)).b, ?_⟩
      refine ⟨fun _ _ F => gR rfl rfl (arm_allocF rfl (Nat.le_trans hbase F.below.size)), ?_⟩
      exact trivial
    intro E' hE gp wp bp G Gs
    simp only [subs, List.map_cons, List.map_nil, List.nil_append, List.cons_append, List.mem_cons, List.not_mem_nil, or_false, List.append_nil] at hE
    rcases hE with rfl | rfl
    · obtain ⟨g5, e_8, lg_8, hv_8⟩ := G 8 5 _ (by simp) rfl
      have n_6 : (Sp.fq (ratioX A B)).p wp (gp 6) := G 6 25 _ (by simp) rfl
      have e_7 : gp 7 = Value.int IntKind.i64 (ratioC B) := G 7 26 _ (by simp) rfl
      clear G Gs
      simp only [lMaT1]
      simp only [qA, setD, qZ, qS, e_8, e_7]
      have T0 := hv_8
      refine wpAny_storeFr (j := 9) (by kernel_rfl) rfl rfl rfl rfl rfl n_6 T0.any ?_
      intro w0 u0 v0
      have O0 := T0.own
      refine wpAny_takeD (i := 10) (d := some 6) (v := Value.int IntKind.i64 (ratioC B)) rfl rfl (by kernel_rfl) (by kernel_rfl) (by kernel_rfl) (fun _ _ _ h => h) (Or.inl ⟨by rfl, fun w => by rfl⟩) ?_
      try simp only [qP, qZ, qS]
      refine wpAny_done (by kernel_rfl) ?_ _
      go_wp2_with fail
      go_meet
      case rel => exact ⟨g5, rfl, rfl, (by omega), (by omega), v0, ((V0.mono bp).upd O0 u0 (by omega)), ((V3.mono bp).upd O0 u0 (by omega)), (Upd.below (hb1.trans (bp.mono hb1.size)) u0 (by omega))⟩
    · obtain ⟨g5, e_8, lg_8, hv_8⟩ := G 8 5 _ (by simp) rfl
      obtain ⟨x_5_0, x_5_1, e_5, n_5_0, rfl⟩ := G 5 19 _ (by simp) rfl
      have n_6 : (Sp.fq (ratioX A B)).p wp (gp 6) := G 6 25 _ (by simp) rfl
      clear G Gs
      simp only [lMaT1]
      simp only [qA, setD, qZ, qS, e_8, e_5]
      refine wpAny_takeD (i := 7) (d := some 26) (v := Value.int IntKind.i64 (ratioC B)) rfl rfl (by kernel_rfl) (by kernel_rfl) (by kernel_rfl) (fun _ _ _ h => h) (Or.inl ⟨by rfl, fun w => by rfl⟩) ?_
      try simp only [qP, qZ, qS]
      have T0 := hv_8
      refine wpAny_storeFr (j := 9) (by kernel_rfl) rfl rfl rfl rfl rfl n_6 T0.any ?_
      intro w0 u0 v0
      have O0 := T0.own
      refine wpAny_takeD (i := 10) (d := some 6) (v := Value.int IntKind.i64 (ratioC B)) rfl rfl (by kernel_rfl) (by kernel_rfl) (by kernel_rfl) (fun _ _ _ h => h) (Or.inl ⟨by rfl, fun w => by rfl⟩) ?_
      try simp only [qP, qZ, qS]
      refine wpAny_done (by kernel_rfl) ?_ _
      go_wp2_with fail
      go_meet
      case rel => exact ⟨g5, rfl, rfl, (by omega), (by omega), v0, ((V0.mono bp).upd O0 u0 (by omega)), ((V3.mono bp).upd O0 u0 (by omega)), (Upd.below (hb1.trans (bp.mono hb1.size)) u0 (by omega))⟩
  case rest =>
  clear V0 V3 hb1
  obtain ⟨g5, rfl, rfl, lg5, d2_0, V5, V0, V3, hb1⟩ := hcut
  go_upto_region 3 with (fail)
  go_cut [45] (fun s_45 wx => s_45 = Value.bool false ∧ VarPt wx w.heap.size A B s L p N q ∧ VarQ wx g3 (ratioX A B) ∧ VarQ wx g5 (ratioX A B) ∧ Below w.heap.size w wx)
  case first =>
    refine tG Try.f5 3 (lMaT2 w A B) [] 15 0 ?_ ?_
    · refine ⟨fun _ _ F => gR rfl rfl (arm_move (.inl rfl) (F.k 4 (Value.int IntKind.i64 (ratioC B)))).b, ?_⟩
      refine ⟨fun _ _ F => gR rfl rfl (arm_move (.inl rfl) (F.k 6 (Value.int IntKind.i64 (ratioC B)))).b, ?_⟩
      refine ⟨fun _ _ F => gR rfl rfl (arm_bin rfl (F.f 0 rfl) (F.f 1 rfl) (fun _ => rfl) (fun w => run_neJ _ _ w)).b, ?_⟩
      refine ⟨fun _ _ F => gR rfl rfl (arm_move (.inl rfl) (F.f 2 rfl)).b, ?_⟩
      refine ⟨fun _ _ F => gG F rfl rfl rfl rfl (arm_loadF rfl (F.k 3 (Value.pointer (some ⟨g3, 0, none⟩))) (V3.mono F.below)).b, ?_⟩
      refine ⟨fun _ _ F => gG F rfl rfl rfl rfl (arm_loadF rfl (F.k 5 (Value.pointer (some ⟨g5, 0, none⟩))) (V5.mono F.below)).b, ?_⟩
      refine ⟨fun _ _ F => gG F rfl rfl rfl rfl (arm_C2 rfl (enters Try.func16 rfl rfl) (F.f 4 rfl) (F.f 5 rfl) (fun va vb w h1 h2 => q_SameB va vb (ratioX A B) (ratioX A B) w h1 h2 bR.1 bR.2 bR.1 bR.2) (fun _ _ h => by have h' : RetV _ _ _ _ := h; rw [Fq.same_refl (ratioX A B)] at h'; exact ofV h')).b, ?_⟩
      refine ⟨fun _ _ F => gG F rfl rfl rfl rfl (arm_not rfl (F.f 6 rfl)).b, ?_⟩
      refine ⟨fun _ _ F => gR rfl rfl (arm_pick rfl (F.f 3 rfl) (fun h => by cases h) (fun _ => (F.f 7 rfl))).b, ?_⟩
      refine ⟨fun _ _ F => gR rfl rfl (arm_move (.inl rfl) (F.f 8 rfl)).b, ?_⟩
      refine ⟨fun _ _ F => gG F rfl rfl rfl rfl (arm_fieldP rfl (F.k 1 (Value.pointer (some ⟨w.heap.size, 0, none⟩))) (run_fieldP0 _)).b, ?_⟩
      refine ⟨fun _ _ F => gG F rfl rfl rfl rfl (arm_loadP0 rfl (F.f 10 rfl) (V0.mono F.below)).b, ?_⟩
      refine ⟨fun _ _ F => gG F rfl rfl rfl rfl (arm_C1 rfl (enters Try.func22 rfl rfl) (F.f 11 rfl) (fun va w h1 => by have e_va : va = _ := h1; subst e_va; exact q_fInt A w lA rA) (fun _ _ h => ofQ h)).b, ?_⟩
      refine ⟨fun _ _ F => gG F rfl rfl rfl rfl (arm_fieldP rfl (F.k 1 (Value.pointer (some ⟨w.heap.size, 0, none⟩))) (run_fieldP0 _)).b, ?_⟩
      refine ⟨fun _ _ F => gG F rfl rfl rfl rfl (arm_loadP0 rfl (F.f 13 rfl) (V0.mono F.below)).b, ?_⟩
      refine ⟨fun _ _ F => gG F rfl rfl rfl rfl (arm_C1 rfl (enters Try.func23 rfl rfl) (F.f 14 rfl) (fun va w h1 => by have e_va : va = _ := h1; subst e_va; exact q_rInt A w lA rA) (fun _ _ h => ofQ h)).b, ?_⟩
      refine ⟨fun _ _ F => gG F rfl rfl rfl rfl (arm_C2 rfl (enters Try.func16 rfl rfl) (F.f 12 rfl) (F.f 15 rfl) (fun va vb w h1 h2 => q_Same va vb (Fq.ofInt A) (Fq.ofInt A) w h1 h2 ((ok_int lA rA).mono (by decide)) ((ok_int lA rA).mono (by decide))) (fun _ _ h => by have h' : RetV _ _ _ _ := h; rw [Fq.same_refl (Fq.ofInt A)] at h'; exact ofV h')).b, ?_⟩
      refine ⟨fun _ _ F => gG F rfl rfl rfl rfl (arm_not rfl (F.f 16 rfl)).b, ?_⟩
      refine ⟨fun _ _ F => gR rfl rfl (arm_pick rfl (F.f 9 rfl) (fun h => by cases h) (fun _ => (F.f 17 rfl))).b, ?_⟩
      exact trivial
    intro E' hE gp wp bp G Gs
    obtain rfl : E' = [] := by simpa [subs] using hE
    have e_18 : gp 18 = Value.bool false := G 18 45 _ (by simp) rfl
    clear G Gs hE
    simp only [lMaT2]
    simp only [qA, setD, qZ, qS, e_18]
    refine wpAny_done (by kernel_rfl) ?_ _
    go_wp2_with fail
    go_meet
    case rel => exact ⟨rfl, (V0.mono bp), (V3.mono bp), (V5.mono bp), (hb1.trans (bp.mono hb1.size))⟩
  case rest =>
  clear V0 V3 V5 hb1
  obtain ⟨rfl, V0, V3, V5, hb1⟩ := hcut
  by_cases h1 : L ≤ 12
  · by_cases h2 : N ≤ 12
    · have hl : L ≤ 1000000 := by omega
      have hn : N ≤ 1000000 := by omega
      by_cases h3 : nl p = L
      · by_cases h4 : nl q = N
        · subst h3
          subst h4
          have bp : nl p ≤ 12 := h1
          have bq : nl q ≤ 12 := h2
          have HL : Hid (false = decide (12 < (nl p : Int))) := Lib.hid (by symm; apply decide_eq_false; omega)
          have HN : Hid (false = decide (12 < (nl q : Int))) := Lib.hid (by symm; apply decide_eq_false; omega)
          clear h1 h2
          by_cases h5 : q = 0
          · have H5 := Lib.hid h5
            clear h5
            go_upto_region 5 with (fail)
            go_cut [69] (fun s_69 wx => s_69 = Value.bool false ∧ VarPt wx w.heap.size A B s (nl p) p (nl q) q ∧ VarQ wx g3 (ratioX A B) ∧ VarQ wx g5 (ratioX A B) ∧ Below w.heap.size w wx)
            case first =>
              refine tF Try.f5 5 (lMaT3 w p q) [] 24 0 ?_ ?_
              · refine ⟨fun _ _ F => gR rfl rfl (arm_fieldP rfl (F.k 1 (Value.pointer (some ⟨w.heap.size, 0, none⟩))) (run_fieldP3 _)).b, ?_⟩
                refine ⟨fun _ _ F => gR rfl rfl (arm_fieldN rfl (F.f 0 rfl)).b, ?_⟩
                refine ⟨fun _ _ F => gR rfl rfl (arm_loadQ3 rfl (F.f 1 rfl) (V0.mono F.below)).b, ?_⟩
                refine ⟨fun _ _ F => gR rfl rfl (arm_lenW rfl (F.f 2 rfl)).b, ?_⟩
                refine ⟨fun _ _ F => gR rfl rfl (arm_bin rfl (F.f 3 rfl) Is.const (fun _ => rfl) (fun w => by rw [HL.out]; rfl)).b, ?_⟩
                refine ⟨fun _ _ F => gR rfl rfl (arm_move (.inl rfl) (F.f 4 rfl)).b, ?_⟩
                refine ⟨fun _ _ F => gG F rfl rfl rfl rfl (arm_fieldP rfl (F.k 1 (Value.pointer (some ⟨w.heap.size, 0, none⟩))) (run_fieldP4 _)).b, ?_⟩
                refine ⟨fun _ _ F => gG F rfl rfl rfl rfl (arm_fieldN rfl (F.f 6 rfl)).b, ?_⟩
                refine ⟨fun _ _ F => gG F rfl rfl rfl rfl (arm_loadQ4 rfl (F.f 7 rfl) (V0.mono F.below)).b, ?_⟩
                refine ⟨fun _ _ F => gG F rfl rfl rfl rfl (arm_lenW rfl (F.f 8 rfl)).b, ?_⟩
                refine ⟨fun _ _ F => gG F rfl rfl rfl rfl (arm_bin rfl (F.f 9 rfl) Is.const (fun _ => rfl) (fun w => by rw [HN.out]; rfl)).b, ?_⟩
                refine ⟨fun _ _ F => gR rfl rfl (arm_pick rfl (F.f 5 rfl) (fun h => by cases h) (fun _ => (F.f 10 rfl))).b, ?_⟩
                refine ⟨fun _ _ F => gR rfl rfl (arm_move (.inl rfl) (F.f 11 rfl)).b, ?_⟩
                refine ⟨fun _ _ F => gG F rfl rfl rfl rfl (arm_fieldP rfl (F.k 1 (Value.pointer (some ⟨w.heap.size, 0, none⟩))) (run_fieldP3 _)).b, ?_⟩
                refine ⟨fun _ _ F => gG F rfl rfl rfl rfl (arm_loadP3 rfl (F.f 13 rfl) (V0.mono F.below)).b, ?_⟩
                refine ⟨fun _ _ F => gG F rfl rfl rfl rfl (arm_C1 rfl (enters Try.func24 rfl rfl) (F.f 14 rfl) (fun va w h1 => c_ref_Valid va (nl p) p w h1 (by omega)) (fun _ _ h => by have h' : RetV _ _ _ _ := h; rw [decide_eq_true (Eq.refl (nl p))] at h'; exact ofV h')).b, ?_⟩
                refine ⟨fun _ _ F => gG F rfl rfl rfl rfl (arm_not rfl (F.f 15 rfl)).b, ?_⟩
                refine ⟨fun _ _ F => gR rfl rfl (arm_pick rfl (F.f 12 rfl) (fun h => by cases h) (fun _ => (F.f 16 rfl))).b, ?_⟩
                refine ⟨fun _ _ F => gR rfl rfl (arm_move (.inl rfl) (F.f 17 rfl)).b, ?_⟩
                refine ⟨fun _ _ F => gG F rfl rfl rfl rfl (arm_fieldP rfl (F.k 1 (Value.pointer (some ⟨w.heap.size, 0, none⟩))) (run_fieldP4 _)).b, ?_⟩
                refine ⟨fun _ _ F => gG F rfl rfl rfl rfl (arm_loadP4 rfl (F.f 19 rfl) (V0.mono F.below)).b, ?_⟩
                refine ⟨fun _ _ F => gG F rfl rfl rfl rfl (arm_C1 rfl (enters Try.func24 rfl rfl) (F.f 20 rfl) (fun va w h1 => c_ref_Valid va (nl q) q w h1 (by omega)) (fun _ _ h => by have h' : RetV _ _ _ _ := h; rw [decide_eq_true (Eq.refl (nl q))] at h'; exact ofV h')).b, ?_⟩
                refine ⟨fun _ _ F => gG F rfl rfl rfl rfl (arm_not rfl (F.f 21 rfl)).b, ?_⟩
                refine ⟨fun _ _ F => gR rfl rfl (arm_pick rfl (F.f 18 rfl) (fun h => by cases h) (fun _ => (F.f 22 rfl))).b, ?_⟩
                exact trivial
              intro E' hE gp wp bp G Gs
              obtain rfl : E' = [] := by simpa [subs] using hE
              have e_23 : gp 23 = Value.bool false := G 23 69 _ (by simp) rfl
              clear G Gs hE
              simp only [lMaT3]
              simp only [qA, setD, qZ, qS, e_23]
              refine wpAny_done (by kernel_rfl) ?_ _
              go_wp2_with fail
              go_meet
              case rel => exact ⟨rfl, (V0.mono bp), (V3.mono bp), (V5.mono bp), (hb1.trans (bp.mono hb1.size))⟩
            case rest =>
            clear V0 V3 V5 hb1
            obtain ⟨rfl, V0, V3, V5, hb1⟩ := hcut
            go_upto_region 7 with (fail)
            go_cut [7, 8] (fun s_7 s_8 wx => ∃ g7, s_7 = Value.pointer (some ⟨g7, 0, none⟩) ∧ s_8 = Value.int IntKind.i64 8 ∧ w.heap.size + 1 ≤ g7 ∧ g3 < g7 ∧ g5 < g7 ∧ VarQ wx g7 Fq.zero ∧ VarPt wx w.heap.size A B s (nl p) p (nl q) q ∧ VarQ wx g3 (ratioX A B) ∧ VarQ wx g5 (ratioX A B) ∧ Below w.heap.size w wx)
            case first =>
              obtain ⟨base, hbase0⟩ : ∃ b : Nat, Hid (b = wc.heap.size) := ⟨_, Lib.hid rfl⟩
              have hbase : base ≤ wc.heap.size := by rw [hbase0.out]; exact Nat.le_refl _
              have hbw : w.heap.size + 1 ≤ base := by have := hb1.size; have h1 := V0.lt; rw [hbase0.out]; omega
              have l_V0 : w.heap.size < base := by rw [hbase0.out]; exact V0.lt
              have l_V3 : g3 < base := by rw [hbase0.out]; exact V3.lt
              have l_V5 : g5 < base := by rw [hbase0.out]; exact V5.lt
              refine wp_tabGF Try.f5 7 (lMaT4 w s p q base) [9] (fun i => i == 10) 7 2 (by kernel_rfl) (by kernel_rfl) (by kernel_rfl) (by kernel_rfl) (by kernel_rfl) ⟨fun h => (by cases h), ⟨fun h => (by cases h), ⟨fun h => (by cases h), ⟨fun h => (by cases h), ⟨fun h => (by cases h), ⟨fun h => (by cases h), ⟨fun h => (by cases h), ⟨fun h => (by cases h), ⟨fun h => (by cases h), ⟨fun h => (by cases h), ⟨fun _ w v h => Sp.varF_lt h, trivial⟩⟩⟩⟩⟩⟩⟩⟩⟩⟩⟩ ?_ ?_
              · refine ⟨fun _ _ F => gR rfl rfl (arm_fieldP rfl (F.k 1 (Value.pointer (some ⟨w.heap.size, 0, none⟩))) (run_fieldP2 _)).b, ?_⟩
                refine ⟨fun _ _ F => gR rfl rfl (arm_loadP2 rfl (F.f 0 rfl) (V0.mono F.below)).b, ?_⟩
                refine ⟨fun _ _ F => gR rfl rfl (arm_fieldP rfl (F.k 1 (Value.pointer (some ⟨w.heap.size, 0, none⟩))) (run_fieldP3 _)).b, ?_⟩
                refine ⟨fun _ _ F => gR rfl rfl (arm_loadP3 rfl (F.f 2 rfl) (V0.mono F.below)).b, ?_⟩
                refine ⟨fun _ _ F => gR rfl rfl (arm_fieldP rfl (F.k 1 (Value.pointer (some ⟨w.heap.size, 0, none⟩))) (run_fieldP4 _)).b, ?_⟩
                refine ⟨fun _ _ F => gR rfl rfl (arm_loadP4 rfl (F.f 4 rfl) (V0.mono F.below)).b, ?_⟩
                refine ⟨fun _ _ F => gR rfl rfl (arm_C3 rfl (enters Try.func25 rfl rfl) (F.f 1 rfl) (F.f 3 rfl) (F.f 5 rfl) (fun va vb vc w h1 h2 h3 => by have e_va : va = _ := h1; subst e_va; exact q_Make0 s vb vc p q w h2 h3 (Nat.le_trans bp (by decide)) (Nat.le_trans bq (by decide)) H5.out) (fun _ _ h => ofQE h)).b, ?_⟩
                refine ⟨fun _ _ F => gR rfl rfl (arm_move (.inl rfl) (F.f 6 rfl)).b, ?_⟩
                refine ⟨fun _ _ F => gR rfl rfl (arm_pair0 rfl (F.f 7 rfl)).b, ?_⟩
                refine ⟨fun _ _ F => gR rfl rfl (arm_pair1 rfl (F.f 7 rfl)).b, ?_⟩
                refine ⟨fun _ _ F => gR rfl rfl (arm_allocF rfl (Nat.le_trans hbase F.below.size)), ?_⟩
                exact trivial
              intro E' hE gp wp bp G Gs
              simp only [subs, List.map_cons, List.map_nil, List.nil_append, List.cons_append, List.mem_cons, List.not_mem_nil, or_false, List.append_nil] at hE
              rcases hE with rfl | rfl
              · obtain ⟨g7, e_10, lg_10, hv_10⟩ := G 10 7 _ (by simp) rfl
                have n_8 : (Sp.fq Fq.zero).p wp (gp 8) := G 8 79 _ (by simp) rfl
                have e_9 : gp 9 = Value.int IntKind.i64 8 := G 9 80 _ (by simp) rfl
                clear G Gs
                simp only [lMaT4]
                simp only [qA, setD, qZ, qS, e_10, e_9]
                have T0 := hv_10
                refine wpAny_storeFr (j := 11) (by kernel_rfl) rfl rfl rfl rfl rfl n_8 T0.any ?_
                intro w0 u0 v0
                have O0 := T0.own
                refine wpAny_takeD (i := 12) (d := some 8) (v := Value.int IntKind.i64 8) rfl rfl (by kernel_rfl) (by kernel_rfl) (by kernel_rfl) (fun _ _ _ h => h) (Or.inl ⟨by rfl, fun w => by rfl⟩) ?_
                try simp only [qP, qZ, qS]
                refine wpAny_done (by kernel_rfl) ?_ _
                go_wp2_with fail
                go_meet
                case rel => exact ⟨g7, rfl, rfl, (by omega), (by omega), (by omega), v0, ((V0.mono bp).upd O0 u0 (by omega)), ((V3.mono bp).upd O0 u0 (by omega)), ((V5.mono bp).upd O0 u0 (by omega)), (Upd.below (hb1.trans (bp.mono hb1.size)) u0 (by omega))⟩
              · obtain ⟨g7, e_10, lg_10, hv_10⟩ := G 10 7 _ (by simp) rfl
                obtain ⟨x_7_0, x_7_1, e_7, n_7_0, rfl⟩ := G 7 71 _ (by simp) rfl
                have n_8 : (Sp.fq Fq.zero).p wp (gp 8) := G 8 79 _ (by simp) rfl
                clear G Gs
                simp only [lMaT4]
                simp only [qA, setD, qZ, qS, e_10, e_7]
                refine wpAny_takeD (i := 9) (d := some 80) (v := Value.int IntKind.i64 8) rfl rfl (by kernel_rfl) (by kernel_rfl) (by kernel_rfl) (fun _ _ _ h => h) (Or.inl ⟨by rfl, fun w => by rfl⟩) ?_
                try simp only [qP, qZ, qS]
                have T0 := hv_10
                refine wpAny_storeFr (j := 11) (by kernel_rfl) rfl rfl rfl rfl rfl n_8 T0.any ?_
                intro w0 u0 v0
                have O0 := T0.own
                refine wpAny_takeD (i := 12) (d := some 8) (v := Value.int IntKind.i64 8) rfl rfl (by kernel_rfl) (by kernel_rfl) (by kernel_rfl) (fun _ _ _ h => h) (Or.inl ⟨by rfl, fun w => by rfl⟩) ?_
                try simp only [qP, qZ, qS]
                refine wpAny_done (by kernel_rfl) ?_ _
                go_wp2_with fail
                go_meet
                case rel => exact ⟨g7, rfl, rfl, (by omega), (by omega), (by omega), v0, ((V0.mono bp).upd O0 u0 (by omega)), ((V3.mono bp).upd O0 u0 (by omega)), ((V5.mono bp).upd O0 u0 (by omega)), (Upd.below (hb1.trans (bp.mono hb1.size)) u0 (by omega))⟩
            case rest =>
            clear V0 V3 V5 hb1
            obtain ⟨g7, rfl, rfl, lg7, d7_0, d7_1, V7, V0, V3, V5, hb1⟩ := hcut
            go_upto_region 8 with (fail)
            go_cut [9, 10] (fun s_9 s_10 wx => ∃ g9, s_9 = Value.pointer (some ⟨g9, 0, none⟩) ∧ s_10 = Value.int IntKind.i64 8 ∧ w.heap.size + 1 ≤ g9 ∧ g3 < g9 ∧ g5 < g9 ∧ g7 < g9 ∧ VarQ wx g9 Fq.zero ∧ VarPt wx w.heap.size A B s (nl p) p (nl q) q ∧ VarQ wx g3 (ratioX A B) ∧ VarQ wx g5 (ratioX A B) ∧ VarQ wx g7 Fq.zero ∧ Below w.heap.size w wx)
            case first =>
              obtain ⟨base, hbase0⟩ : ∃ b : Nat, Hid (b = wc.heap.size) := ⟨_, Lib.hid rfl⟩
              have hbase : base ≤ wc.heap.size := by rw [hbase0.out]; exact Nat.le_refl _
              have hbw : w.heap.size + 1 ≤ base := by have := hb1.size; have h1 := V0.lt; rw [hbase0.out]; omega
              have l_V0 : w.heap.size < base := by rw [hbase0.out]; exact V0.lt
              have l_V3 : g3 < base := by rw [hbase0.out]; exact V3.lt
              have l_V5 : g5 < base := by rw [hbase0.out]; exact V5.lt
              have l_V7 : g7 < base := by rw [hbase0.out]; exact V7.lt
              refine wp_tabGF Try.f5 8 (lMaT5 w s p q base) [9] (fun i => i == 10) 7 2 (by kernel_rfl) (by kernel_rfl) (by kernel_rfl) (by kernel_rfl) (by kernel_rfl) ⟨fun h => (by cases h), ⟨fun h => (by cases h), ⟨fun h => (by cases h), ⟨fun h => (by cases h), ⟨fun h => (by cases h), ⟨fun h => (by cases h), ⟨fun h => (by cases h), ⟨fun h => (by cases h), ⟨fun h => (by cases h), ⟨fun h => (by cases h), ⟨fun _ w v h => Sp.varF_lt h, trivial⟩⟩⟩⟩⟩⟩⟩⟩⟩⟩⟩ ?_ ?_
              · refine ⟨fun _ _ F => gR rfl rfl (arm_fieldP rfl (F.k 1 (Value.pointer (some ⟨w.heap.size, 0, none⟩))) (run_fieldP2 _)).b, ?_⟩
                refine ⟨fun _ _ F => gR rfl rfl (arm_loadP2 rfl (F.f 0 rfl) (V0.mono F.below)).b, ?_⟩
                refine ⟨fun _ _ F => gR rfl rfl (arm_fieldP rfl (F.k 1 (Value.pointer (some ⟨w.heap.size, 0, none⟩))) (run_fieldP3 _)).b, ?_⟩
                refine ⟨fun _ _ F => gR rfl rfl (arm_loadP3 rfl (F.f 2 rfl) (V0.mono F.below)).b, ?_⟩
                refine ⟨fun _ _ F => gR rfl rfl (arm_fieldP rfl (F.k 1 (Value.pointer (some ⟨w.heap.size, 0, none⟩))) (run_fieldP4 _)).b, ?_⟩
                refine ⟨fun _ _ F => gR rfl rfl (arm_loadP4 rfl (F.f 4 rfl) (V0.mono F.below)).b, ?_⟩
                refine ⟨fun _ _ F => gR rfl rfl (arm_C3 rfl (enters Try.func26 rfl rfl) (F.f 1 rfl) (F.f 3 rfl) (F.f 5 rfl) (fun va vb vc w h1 h2 h3 => by have e_va : va = _ := h1; subst e_va; exact q_rMake0 s vb vc p q w h2 h3 (Nat.le_trans bp (by decide)) (Nat.le_trans bq (by decide)) H5.out) (fun _ _ h => ofQE h)).b, ?_⟩
                refine ⟨fun _ _ F => gR rfl rfl (arm_move (.inl rfl) (F.f 6 rfl)).b, ?_⟩
                refine ⟨fun _ _ F => gR rfl rfl (arm_pair0 rfl (F.f 7 rfl)).b, ?_⟩
                refine ⟨fun _ _ F => gR rfl rfl (arm_pair1 rfl (F.f 7 rfl)).b, ?_⟩
                refine ⟨fun _ _ F => gR rfl rfl (arm_allocF rfl (Nat.le_trans hbase F.below.size)), ?_⟩
                exact trivial
              intro E' hE gp wp bp G Gs
              simp only [subs, List.map_cons, List.map_nil, List.nil_append, List.cons_append, List.mem_cons, List.not_mem_nil, or_false, List.append_nil] at hE
              rcases hE with rfl | rfl
              · obtain ⟨g9, e_10, lg_10, hv_10⟩ := G 10 9 _ (by simp) rfl
                have n_8 : (Sp.fq Fq.zero).p wp (gp 8) := G 8 89 _ (by simp) rfl
                have e_9 : gp 9 = Value.int IntKind.i64 8 := G 9 90 _ (by simp) rfl
                clear G Gs
                simp only [lMaT5]
                simp only [qA, setD, qZ, qS, e_10, e_9]
                have T0 := hv_10
                refine wpAny_storeFr (j := 11) (by kernel_rfl) rfl rfl rfl rfl rfl n_8 T0.any ?_
                intro w0 u0 v0
                have O0 := T0.own
                refine wpAny_takeD (i := 12) (d := some 10) (v := Value.int IntKind.i64 8) rfl rfl (by kernel_rfl) (by kernel_rfl) (by kernel_rfl) (fun _ _ _ h => h) (Or.inl ⟨by rfl, fun w => by rfl⟩) ?_
                try simp only [qP, qZ, qS]
                refine wpAny_done (by kernel_rfl) ?_ _
                go_wp2_with fail
                go_meet
                case rel => exact ⟨g9, rfl, rfl, (by omega), (by omega), (by omega), (by omega), v0, ((V0.mono bp).upd O0 u0 (by omega)), ((V3.mono bp).upd O0 u0 (by omega)), ((V5.mono bp).upd O0 u0 (by omega)), ((V7.mono bp).upd O0 u0 (by omega)), (Upd.below (hb1.trans (bp.mono hb1.size)) u0 (by omega))⟩
              · obtain ⟨g9, e_10, lg_10, hv_10⟩ := G 10 9 _ (by simp) rfl
                obtain ⟨x_7_0, x_7_1, e_7, n_7_0, rfl⟩ := G 7 81 _ (by simp) rfl
                have n_8 : (Sp.fq Fq.zero).p wp (gp 8) := G 8 89 _ (by simp) rfl
                clear G Gs
                simp only [lMaT5]
                simp only [qA, setD, qZ, qS, e_10, e_7]
                refine wpAny_takeD (i := 9) (d := some 90) (v := Value.int IntKind.i64 8) rfl rfl (by kernel_rfl) (by kernel_rfl) (by kernel_rfl) (fun _ _ _ h => h) (Or.inl ⟨by rfl, fun w => by rfl⟩) ?_
                try simp only [qP, qZ, qS]
                have T0 := hv_10
                refine wpAny_storeFr (j := 11) (by kernel_rfl) rfl rfl rfl rfl rfl n_8 T0.any ?_
                intro w0 u0 v0
                have O0 := T0.own
                refine wpAny_takeD (i := 12) (d := some 10) (v := Value.int IntKind.i64 8) rfl rfl (by kernel_rfl) (by kernel_rfl) (by kernel_rfl) (fun _ _ _ h => h) (Or.inl ⟨by rfl, fun w => by rfl⟩) ?_
                try simp only [qP, qZ, qS]
                refine wpAny_done (by kernel_rfl) ?_ _
                go_wp2_with fail
                go_meet
                case rel => exact ⟨g9, rfl, rfl, (by omega), (by omega), (by omega), (by omega), v0, ((V0.mono bp).upd O0 u0 (by omega)), ((V3.mono bp).upd O0 u0 (by omega)), ((V5.mono bp).upd O0 u0 (by omega)), ((V7.mono bp).upd O0 u0 (by omega)), (Upd.below (hb1.trans (bp.mono hb1.size)) u0 (by omega))⟩
            case rest =>
            clear V0 V3 V5 V7 hb1
            obtain ⟨g9, rfl, rfl, lg9, d8_0, d8_1, d8_2, V9, V0, V3, V5, V7, hb1⟩ := hcut
            go_upto_region 9 with (fail)
            go_cut [2] (fun s_2 wx => s_2 = Value.bool true ∧ VarPt wx w.heap.size A B s (nl p) p (nl q) q ∧ VarQ wx g3 (ratioX A B) ∧ VarQ wx g5 (ratioX A B) ∧ VarQ wx g7 Fq.zero ∧ VarQ wx g9 Fq.zero ∧ Below w.heap.size w wx)
            case first =>
              refine tF Try.f5 9 (lMaT6 ) [] 18 0 ?_ ?_
              · refine ⟨fun _ _ F => gR rfl rfl (arm_move (.inl rfl) (F.k 8 (Value.int IntKind.i64 8))).b, ?_⟩
                refine ⟨fun _ _ F => gR rfl rfl (arm_move (.inl rfl) (F.k 10 (Value.int IntKind.i64 8))).b, ?_⟩
                refine ⟨fun _ _ F => gR rfl rfl (arm_bin rfl (F.f 0 rfl) (F.f 1 rfl) (fun _ => rfl) (fun _ => rfl)).b, ?_⟩
                refine ⟨fun _ _ F => gR rfl rfl (arm_move (.inl rfl) (F.f 2 rfl)).b, ?_⟩
                refine ⟨fun _ _ F => gG F rfl rfl rfl rfl (arm_loadF rfl (F.k 7 (Value.pointer (some ⟨g7, 0, none⟩))) (V7.mono F.below)).b, ?_⟩
                refine ⟨fun _ _ F => gG F rfl rfl rfl rfl (arm_loadF rfl (F.k 9 (Value.pointer (some ⟨g9, 0, none⟩))) (V9.mono F.below)).b, ?_⟩
                refine ⟨fun _ _ F => gG F rfl rfl rfl rfl (arm_C2 rfl (enters Try.func16 rfl rfl) (F.f 4 rfl) (F.f 5 rfl) (fun va vb w h1 h2 => q_SameB va vb Fq.zero Fq.zero w h1 h2 (by decide) (by decide) (by decide) (by decide)) (fun _ _ h => by have h' : RetV _ _ _ _ := h; rw [Fq.same_refl Fq.zero] at h'; exact ofV h')).b, ?_⟩
                refine ⟨fun _ _ F => gR rfl rfl (arm_pick rfl (F.f 3 rfl) (fun _ => (F.f 6 rfl)) (fun h => by cases h)).b, ?_⟩
                refine ⟨fun _ _ F => gR rfl rfl (arm_move (.inl rfl) (F.f 7 rfl)).b, ?_⟩
                refine ⟨fun _ _ F => gG F rfl rfl rfl rfl (arm_move (.inl rfl) (F.k 8 (Value.int IntKind.i64 8))).b, ?_⟩
                refine ⟨fun _ _ F => gG F rfl rfl rfl rfl (arm_bin rfl (F.f 9 rfl) Is.const (fun _ => rfl) (fun _ => rfl)).b, ?_⟩
                refine ⟨fun _ _ F => gG F rfl rfl rfl rfl (arm_move (.inl rfl) (F.f 10 rfl)).b, ?_⟩
                refine ⟨fun _ _ F => gS F rfl rfl rfl rfl rfl rfl, ?_⟩
                refine ⟨fun _ _ F => gS F rfl rfl rfl rfl rfl rfl, ?_⟩
                refine ⟨fun _ _ F => gG F rfl rfl rfl rfl (arm_pick rfl (F.f 11 rfl) (fun _ => Is.const) (fun h => by cases h)).b, ?_⟩
                refine ⟨fun _ _ F => gR rfl rfl (arm_pick rfl (F.f 8 rfl) (fun _ => (F.f 14 rfl)) (fun h => by cases h)).b, ?_⟩
                refine ⟨fun _ _ F => gR rfl rfl (arm_move (.inl rfl) (F.f 15 rfl)).b, ?_⟩
                refine ⟨fun _ _ F => gG F rfl rfl rfl rfl (arm_C0 rfl (enters Try.func11 rfl rfl)  (fun w => c_awake2 w) (fun _ _ h => ofV h)).b, ?_⟩
                refine ⟨fun _ _ F => gR rfl rfl (arm_pick rfl (F.f 16 rfl) (fun _ => (F.f 17 rfl)) (fun h => by cases h)).b, ?_⟩
                refine ⟨fun _ _ F => gR rfl rfl (arm_move (.inr rfl) (F.f 18 rfl)).b, ?_⟩
                exact trivial
              intro E' hE gp wp bp G Gs
              obtain rfl : E' = [] := by simpa [subs] using hE
              have e_19 : gp 19 = Value.bool true := G 19 2 _ (by simp) rfl
              clear G Gs hE
              simp only [lMaT6]
              simp only [qA, setD, qZ, qS, e_19]
              refine wpAny_done (by kernel_rfl) ?_ _
              go_wp2_with fail
              go_meet
              case rel => exact ⟨rfl, (V0.mono bp), (V3.mono bp), (V5.mono bp), (V7.mono bp), (V9.mono bp), (hb1.trans (bp.mono hb1.size))⟩
            case rest =>
            clear V0 V3 V5 V7 V9 hb1
            obtain ⟨rfl, V0, V3, V5, V7, V9, hb1⟩ := hcut
            go_wp2
            go_ret
            exact ⟨rfl, hb1⟩
          · have H5 := Lib.hid h5
            clear h5
            go_upto_region 5 with (fail)
            go_cut [69] (fun s_69 wx => s_69 = Value.bool false ∧ VarPt wx w.heap.size A B s (nl p) p (nl q) q ∧ VarQ wx g3 (ratioX A B) ∧ VarQ wx g5 (ratioX A B) ∧ Below w.heap.size w wx)
            case first =>
              refine tF Try.f5 5 (lMaT7 w p q) [] 24 0 ?_ ?_
              · refine ⟨fun _ _ F => gR rfl rfl (arm_fieldP rfl (F.k 1 (Value.pointer (some ⟨w.heap.size, 0, none⟩))) (run_fieldP3 _)).b, ?_⟩
                refine ⟨fun _ _ F => gR rfl rfl (arm_fieldN rfl (F.f 0 rfl)).b, ?_⟩
                refine ⟨fun _ _ F => gR rfl rfl (arm_loadQ3 rfl (F.f 1 rfl) (V0.mono F.below)).b, ?_⟩
                refine ⟨fun _ _ F => gR rfl rfl (arm_lenW rfl (F.f 2 rfl)).b, ?_⟩
                refine ⟨fun _ _ F => gR rfl rfl (arm_bin rfl (F.f 3 rfl) Is.const (fun _ => rfl) (fun w => by rw [HL.out]; rfl)).b, ?_⟩
                refine ⟨fun _ _ F => gR rfl rfl (arm_move (.inl rfl) (F.f 4 rfl)).b, ?_⟩
                refine ⟨fun _ _ F => gG F rfl rfl rfl rfl (arm_fieldP rfl (F.k 1 (Value.pointer (some ⟨w.heap.size, 0, none⟩))) (run_fieldP4 _)).b, ?_⟩
                refine ⟨fun _ _ F => gG F rfl rfl rfl rfl (arm_fieldN rfl (F.f 6 rfl)).b, ?_⟩
                refine ⟨fun _ _ F => gG F rfl rfl rfl rfl (arm_loadQ4 rfl (F.f 7 rfl) (V0.mono F.below)).b, ?_⟩
                refine ⟨fun _ _ F => gG F rfl rfl rfl rfl (arm_lenW rfl (F.f 8 rfl)).b, ?_⟩
                refine ⟨fun _ _ F => gG F rfl rfl rfl rfl (arm_bin rfl (F.f 9 rfl) Is.const (fun _ => rfl) (fun w => by rw [HN.out]; rfl)).b, ?_⟩
                refine ⟨fun _ _ F => gR rfl rfl (arm_pick rfl (F.f 5 rfl) (fun h => by cases h) (fun _ => (F.f 10 rfl))).b, ?_⟩
                refine ⟨fun _ _ F => gR rfl rfl (arm_move (.inl rfl) (F.f 11 rfl)).b, ?_⟩
                refine ⟨fun _ _ F => gG F rfl rfl rfl rfl (arm_fieldP rfl (F.k 1 (Value.pointer (some ⟨w.heap.size, 0, none⟩))) (run_fieldP3 _)).b, ?_⟩
                refine ⟨fun _ _ F => gG F rfl rfl rfl rfl (arm_loadP3 rfl (F.f 13 rfl) (V0.mono F.below)).b, ?_⟩
                refine ⟨fun _ _ F => gG F rfl rfl rfl rfl (arm_C1 rfl (enters Try.func24 rfl rfl) (F.f 14 rfl) (fun va w h1 => c_ref_Valid va (nl p) p w h1 (by omega)) (fun _ _ h => by have h' : RetV _ _ _ _ := h; rw [decide_eq_true (Eq.refl (nl p))] at h'; exact ofV h')).b, ?_⟩
                refine ⟨fun _ _ F => gG F rfl rfl rfl rfl (arm_not rfl (F.f 15 rfl)).b, ?_⟩
                refine ⟨fun _ _ F => gR rfl rfl (arm_pick rfl (F.f 12 rfl) (fun h => by cases h) (fun _ => (F.f 16 rfl))).b, ?_⟩
                refine ⟨fun _ _ F => gR rfl rfl (arm_move (.inl rfl) (F.f 17 rfl)).b, ?_⟩
                refine ⟨fun _ _ F => gG F rfl rfl rfl rfl (arm_fieldP rfl (F.k 1 (Value.pointer (some ⟨w.heap.size, 0, none⟩))) (run_fieldP4 _)).b, ?_⟩
                refine ⟨fun _ _ F => gG F rfl rfl rfl rfl (arm_loadP4 rfl (F.f 19 rfl) (V0.mono F.below)).b, ?_⟩
                refine ⟨fun _ _ F => gG F rfl rfl rfl rfl (arm_C1 rfl (enters Try.func24 rfl rfl) (F.f 20 rfl) (fun va w h1 => c_ref_Valid va (nl q) q w h1 (by omega)) (fun _ _ h => by have h' : RetV _ _ _ _ := h; rw [decide_eq_true (Eq.refl (nl q))] at h'; exact ofV h')).b, ?_⟩
                refine ⟨fun _ _ F => gG F rfl rfl rfl rfl (arm_not rfl (F.f 21 rfl)).b, ?_⟩
                refine ⟨fun _ _ F => gR rfl rfl (arm_pick rfl (F.f 18 rfl) (fun h => by cases h) (fun _ => (F.f 22 rfl))).b, ?_⟩
                exact trivial
              intro E' hE gp wp bp G Gs
              obtain rfl : E' = [] := by simpa [subs] using hE
              have e_23 : gp 23 = Value.bool false := G 23 69 _ (by simp) rfl
              clear G Gs hE
              simp only [lMaT7]
              simp only [qA, setD, qZ, qS, e_23]
              refine wpAny_done (by kernel_rfl) ?_ _
              go_wp2_with fail
              go_meet
              case rel => exact ⟨rfl, (V0.mono bp), (V3.mono bp), (V5.mono bp), (hb1.trans (bp.mono hb1.size))⟩
            case rest =>
            clear V0 V3 V5 hb1
            obtain ⟨rfl, V0, V3, V5, hb1⟩ := hcut
            go_upto_region 7 with (fail)
            go_cut [7, 8] (fun s_7 s_8 wx => ∃ g7, s_7 = Value.pointer (some ⟨g7, 0, none⟩) ∧ s_8 = Value.int IntKind.i64 0 ∧ w.heap.size + 1 ≤ g7 ∧ g3 < g7 ∧ g5 < g7 ∧ VarQ wx g7 (Fq.low s p q) ∧ VarPt wx w.heap.size A B s (nl p) p (nl q) q ∧ VarQ wx g3 (ratioX A B) ∧ VarQ wx g5 (ratioX A B) ∧ Below w.heap.size w wx)
            case first =>
              obtain ⟨base, hbase0⟩ : ∃ b : Nat, Hid (b = wc.heap.size) := ⟨_, Lib.hid rfl⟩
              have hbase : base ≤ wc.heap.size := by rw [hbase0.out]; exact Nat.le_refl _
              have hbw : w.heap.size + 1 ≤ base := by have := hb1.size; have h1 := V0.lt; rw [hbase0.out]; omega
              have l_V0 : w.heap.size < base := by rw [hbase0.out]; exact V0.lt
              have l_V3 : g3 < base := by rw [hbase0.out]; exact V3.lt
              have l_V5 : g5 < base := by rw [hbase0.out]; exact V5.lt
              refine wp_tabGF Try.f5 7 (lMaT8 w s p q base) [9] (fun i => i == 10) 7 2 (by kernel_rfl) (by kernel_rfl) (by kernel_rfl) (by kernel_rfl) (by kernel_rfl) ⟨fun h => (by cases h), ⟨fun h => (by cases h), ⟨fun h => (by cases h), ⟨fun h => (by cases h), ⟨fun h => (by cases h), ⟨fun h => (by cases h), ⟨fun h => (by cases h), ⟨fun h => (by cases h), ⟨fun h => (by cases h), ⟨fun h => (by cases h), ⟨fun _ w v h => Sp.varF_lt h, trivial⟩⟩⟩⟩⟩⟩⟩⟩⟩⟩⟩ ?_ ?_
              · refine ⟨fun _ _ F => gR rfl rfl (arm_fieldP rfl (F.k 1 (Value.pointer (some ⟨w.heap.size, 0, none⟩))) (run_fieldP2 _)).b, ?_⟩
                refine ⟨fun _ _ F => gR rfl rfl (arm_loadP2 rfl (F.f 0 rfl) (V0.mono F.below)).b, ?_⟩
                refine ⟨fun _ _ F => gR rfl rfl (arm_fieldP rfl (F.k 1 (Value.pointer (some ⟨w.heap.size, 0, none⟩))) (run_fieldP3 _)).b, ?_⟩
                refine ⟨fun _ _ F => gR rfl rfl (arm_loadP3 rfl (F.f 2 rfl) (V0.mono F.below)).b, ?_⟩
                refine ⟨fun _ _ F => gR rfl rfl (arm_fieldP rfl (F.k 1 (Value.pointer (some ⟨w.heap.size, 0, none⟩))) (run_fieldP4 _)).b, ?_⟩
                refine ⟨fun _ _ F => gR rfl rfl (arm_loadP4 rfl (F.f 4 rfl) (V0.mono F.below)).b, ?_⟩
                refine ⟨fun _ _ F => gR rfl rfl (arm_C3 rfl (enters Try.func25 rfl rfl) (F.f 1 rfl) (F.f 3 rfl) (F.f 5 rfl) (fun va vb vc w h1 h2 h3 => by have e_va : va = _ := h1; subst e_va; exact q_Make s vb vc p q w h2 h3 (Nat.le_trans bp (by decide)) (Nat.le_trans bq (by decide)) H5.out) (fun _ _ h => ofQE h)).b, ?_⟩
                refine ⟨fun _ _ F => gR rfl rfl (arm_move (.inl rfl) (F.f 6 rfl)).b, ?_⟩
                refine ⟨fun _ _ F => gR rfl rfl (arm_pair0 rfl (F.f 7 rfl)).b, ?_⟩
                refine ⟨fun _ _ F => gR rfl rfl (arm_pair1 rfl (F.f 7 rfl)).b, ?_⟩
                refine ⟨fun _ _ F => gR rfl rfl (arm_allocF rfl (Nat.le_trans hbase F.below.size)), ?_⟩
                exact trivial
              intro E' hE gp wp bp G Gs
              simp only [subs, List.map_cons, List.map_nil, List.nil_append, List.cons_append, List.mem_cons, List.not_mem_nil, or_false, List.append_nil] at hE
              rcases hE with rfl | rfl
              · obtain ⟨g7, e_10, lg_10, hv_10⟩ := G 10 7 _ (by simp) rfl
                have n_8 : (Sp.fq (Fq.low s p q)).p wp (gp 8) := G 8 79 _ (by simp) rfl
                have e_9 : gp 9 = Value.int IntKind.i64 0 := G 9 80 _ (by simp) rfl
                clear G Gs
                simp only [lMaT8]
                simp only [qA, setD, qZ, qS, e_10, e_9]
                have T0 := hv_10
                refine wpAny_storeFr (j := 11) (by kernel_rfl) rfl rfl rfl rfl rfl n_8 T0.any ?_
                intro w0 u0 v0
                have O0 := T0.own
                refine wpAny_takeD (i := 12) (d := some 8) (v := Value.int IntKind.i64 0) rfl rfl (by kernel_rfl) (by kernel_rfl) (by kernel_rfl) (fun _ _ _ h => h) (Or.inl ⟨by rfl, fun w => by rfl⟩) ?_
                try simp only [qP, qZ, qS]
                refine wpAny_done (by kernel_rfl) ?_ _
                go_wp2_with fail
                go_meet
                case rel => exact ⟨g7, rfl, rfl, (by omega), (by omega), (by omega), v0, ((V0.mono bp).upd O0 u0 (by omega)), ((V3.mono bp).upd O0 u0 (by omega)), ((V5.mono bp).upd O0 u0 (by omega)), (Upd.below (hb1.trans (bp.mono hb1.size)) u0 (by omega))⟩
              · obtain ⟨g7, e_10, lg_10, hv_10⟩ := G 10 7 _ (by simp) rfl
                obtain ⟨x_7_0, x_7_1, e_7, n_7_0, rfl⟩ := G 7 71 _ (by simp) rfl
                have n_8 : (Sp.fq (Fq.low s p q)).p wp (gp 8) := G 8 79 _ (by simp) rfl
                clear G Gs
                simp only [lMaT8]
                simp only [qA, setD, qZ, qS, e_10, e_7]
                refine wpAny_takeD (i := 9) (d := some 80) (v := Value.int IntKind.i64 0) rfl rfl (by kernel_rfl) (by kernel_rfl) (by kernel_rfl) (fun _ _ _ h => h) (Or.inl ⟨by rfl, fun w => by rfl⟩) ?_
                try simp only [qP, qZ, qS]
                have T0 := hv_10
                refine wpAny_storeFr (j := 11) (by kernel_rfl) rfl rfl rfl rfl rfl n_8 T0.any ?_
                intro w0 u0 v0
                have O0 := T0.own
                refine wpAny_takeD (i := 12) (d := some 8) (v := Value.int IntKind.i64 0) rfl rfl (by kernel_rfl) (by kernel_rfl) (by kernel_rfl) (fun _ _ _ h => h) (Or.inl ⟨by rfl, fun w => by rfl⟩) ?_
                try simp only [qP, qZ, qS]
                refine wpAny_done (by kernel_rfl) ?_ _
                go_wp2_with fail
                go_meet
                case rel => exact ⟨g7, rfl, rfl, (by omega), (by omega), (by omega), v0, ((V0.mono bp).upd O0 u0 (by omega)), ((V3.mono bp).upd O0 u0 (by omega)), ((V5.mono bp).upd O0 u0 (by omega)), (Upd.below (hb1.trans (bp.mono hb1.size)) u0 (by omega))⟩
            case rest =>
            clear V0 V3 V5 hb1
            obtain ⟨g7, rfl, rfl, lg7, d7_0, d7_1, V7, V0, V3, V5, hb1⟩ := hcut
            go_upto_region 8 with (fail)
            go_cut [9, 10] (fun s_9 s_10 wx => ∃ g9, s_9 = Value.pointer (some ⟨g9, 0, none⟩) ∧ s_10 = Value.int IntKind.i64 0 ∧ w.heap.size + 1 ≤ g9 ∧ g3 < g9 ∧ g5 < g9 ∧ g7 < g9 ∧ VarQ wx g9 (Fq.low s p q) ∧ VarPt wx w.heap.size A B s (nl p) p (nl q) q ∧ VarQ wx g3 (ratioX A B) ∧ VarQ wx g5 (ratioX A B) ∧ VarQ wx g7 (Fq.low s p q) ∧ Below w.heap.size w wx)
            case first =>
              obtain ⟨base, hbase0⟩ : ∃ b : Nat, Hid (b = wc.heap.size) := ⟨_, Lib.hid rfl⟩
              have hbase : base ≤ wc.heap.size := by rw [hbase0.out]; exact Nat.le_refl _
              have hbw : w.heap.size + 1 ≤ base := by have := hb1.size; have h1 := V0.lt; rw [hbase0.out]; omega
              have l_V0 : w.heap.size < base := by rw [hbase0.out]; exact V0.lt
              have l_V3 : g3 < base := by rw [hbase0.out]; exact V3.lt
              have l_V5 : g5 < base := by rw [hbase0.out]; exact V5.lt
              have l_V7 : g7 < base := by rw [hbase0.out]; exact V7.lt
              refine wp_tabGF Try.f5 8 (lMaT9 w s p q base) [9] (fun i => i == 10) 7 2 (by kernel_rfl) (by kernel_rfl) (by kernel_rfl) (by kernel_rfl) (by kernel_rfl) ⟨fun h => (by cases h), ⟨fun h => (by cases h), ⟨fun h => (by cases h), ⟨fun h => (by cases h), ⟨fun h => (by cases h), ⟨fun h => (by cases h), ⟨fun h => (by cases h), ⟨fun h => (by cases h), ⟨fun h => (by cases h), ⟨fun h => (by cases h), ⟨fun _ w v h => Sp.varF_lt h, trivial⟩⟩⟩⟩⟩⟩⟩⟩⟩⟩⟩ ?_ ?_
              · refine ⟨fun _ _ F => gR rfl rfl (arm_fieldP rfl (F.k 1 (Value.pointer (some ⟨w.heap.size, 0, none⟩))) (run_fieldP2 _)).b, ?_⟩
                refine ⟨fun _ _ F => gR rfl rfl (arm_loadP2 rfl (F.f 0 rfl) (V0.mono F.below)).b, ?_⟩
                refine ⟨fun _ _ F => gR rfl rfl (arm_fieldP rfl (F.k 1 (Value.pointer (some ⟨w.heap.size, 0, none⟩))) (run_fieldP3 _)).b, ?_⟩
                refine ⟨fun _ _ F => gR rfl rfl (arm_loadP3 rfl (F.f 2 rfl) (V0.mono F.below)).b, ?_⟩
                refine ⟨fun _ _ F => gR rfl rfl (arm_fieldP rfl (F.k 1 (Value.pointer (some ⟨w.heap.size, 0, none⟩))) (run_fieldP4 _)).b, ?_⟩
                refine ⟨fun _ _ F => gR rfl rfl (arm_loadP4 rfl (F.f 4 rfl) (V0.mono F.below)).b, ?_⟩
                refine ⟨fun _ _ F => gR rfl rfl (arm_C3 rfl (enters Try.func26 rfl rfl) (F.f 1 rfl) (F.f 3 rfl) (F.f 5 rfl) (fun va vb vc w h1 h2 h3 => by have e_va : va = _ := h1; subst e_va; exact q_rMake s vb vc p q w h2 h3 (Nat.le_trans bp (by decide)) (Nat.le_trans bq (by decide)) H5.out) (fun _ _ h => ofQE h)).b, ?_⟩
                refine ⟨fun _ _ F => gR rfl rfl (arm_move (.inl rfl) (F.f 6 rfl)).b, ?_⟩
                refine ⟨fun _ _ F => gR rfl rfl (arm_pair0 rfl (F.f 7 rfl)).b, ?_⟩
                refine ⟨fun _ _ F => gR rfl rfl (arm_pair1 rfl (F.f 7 rfl)).b, ?_⟩
                refine ⟨fun _ _ F => gR rfl rfl (arm_allocF rfl (Nat.le_trans hbase F.below.size)), ?_⟩
                exact trivial
              intro E' hE gp wp bp G Gs
              simp only [subs, List.map_cons, List.map_nil, List.nil_append, List.cons_append, List.mem_cons, List.not_mem_nil, or_false, List.append_nil] at hE
              rcases hE with rfl | rfl
              · obtain ⟨g9, e_10, lg_10, hv_10⟩ := G 10 9 _ (by simp) rfl
                have n_8 : (Sp.fq (Fq.low s p q)).p wp (gp 8) := G 8 89 _ (by simp) rfl
                have e_9 : gp 9 = Value.int IntKind.i64 0 := G 9 90 _ (by simp) rfl
                clear G Gs
                simp only [lMaT9]
                simp only [qA, setD, qZ, qS, e_10, e_9]
                have T0 := hv_10
                refine wpAny_storeFr (j := 11) (by kernel_rfl) rfl rfl rfl rfl rfl n_8 T0.any ?_
                intro w0 u0 v0
                have O0 := T0.own
                refine wpAny_takeD (i := 12) (d := some 10) (v := Value.int IntKind.i64 0) rfl rfl (by kernel_rfl) (by kernel_rfl) (by kernel_rfl) (fun _ _ _ h => h) (Or.inl ⟨by rfl, fun w => by rfl⟩) ?_
                try simp only [qP, qZ, qS]
                refine wpAny_done (by kernel_rfl) ?_ _
                go_wp2_with fail
                go_meet
                case rel => exact ⟨g9, rfl, rfl, (by omega), (by omega), (by omega), (by omega), v0, ((V0.mono bp).upd O0 u0 (by omega)), ((V3.mono bp).upd O0 u0 (by omega)), ((V5.mono bp).upd O0 u0 (by omega)), ((V7.mono bp).upd O0 u0 (by omega)), (Upd.below (hb1.trans (bp.mono hb1.size)) u0 (by omega))⟩
              · obtain ⟨g9, e_10, lg_10, hv_10⟩ := G 10 9 _ (by simp) rfl
                obtain ⟨x_7_0, x_7_1, e_7, n_7_0, rfl⟩ := G 7 81 _ (by simp) rfl
                have n_8 : (Sp.fq (Fq.low s p q)).p wp (gp 8) := G 8 89 _ (by simp) rfl
                clear G Gs
                simp only [lMaT9]
                simp only [qA, setD, qZ, qS, e_10, e_7]
                refine wpAny_takeD (i := 9) (d := some 90) (v := Value.int IntKind.i64 0) rfl rfl (by kernel_rfl) (by kernel_rfl) (by kernel_rfl) (fun _ _ _ h => h) (Or.inl ⟨by rfl, fun w => by rfl⟩) ?_
                try simp only [qP, qZ, qS]
                have T0 := hv_10
                refine wpAny_storeFr (j := 11) (by kernel_rfl) rfl rfl rfl rfl rfl n_8 T0.any ?_
                intro w0 u0 v0
                have O0 := T0.own
                refine wpAny_takeD (i := 12) (d := some 10) (v := Value.int IntKind.i64 0) rfl rfl (by kernel_rfl) (by kernel_rfl) (by kernel_rfl) (fun _ _ _ h => h) (Or.inl ⟨by rfl, fun w => by rfl⟩) ?_
                try simp only [qP, qZ, qS]
                refine wpAny_done (by kernel_rfl) ?_ _
                go_wp2_with fail
                go_meet
                case rel => exact ⟨g9, rfl, rfl, (by omega), (by omega), (by omega), (by omega), v0, ((V0.mono bp).upd O0 u0 (by omega)), ((V3.mono bp).upd O0 u0 (by omega)), ((V5.mono bp).upd O0 u0 (by omega)), ((V7.mono bp).upd O0 u0 (by omega)), (Upd.below (hb1.trans (bp.mono hb1.size)) u0 (by omega))⟩
            case rest =>
            clear V0 V3 V5 V7 hb1
            obtain ⟨g9, rfl, rfl, lg9, d8_0, d8_1, d8_2, V9, V0, V3, V5, V7, hb1⟩ := hcut
            go_upto_region 9 with (fail)
            go_cut [2] (fun s_2 wx => s_2 = Value.bool true ∧ VarPt wx w.heap.size A B s (nl p) p (nl q) q ∧ VarQ wx g3 (ratioX A B) ∧ VarQ wx g5 (ratioX A B) ∧ VarQ wx g7 (Fq.low s p q) ∧ VarQ wx g9 (Fq.low s p q) ∧ Below w.heap.size w wx)
            case first =>
              refine tF Try.f5 9 (lMaT10 s p q) [] 18 0 ?_ ?_
              · refine ⟨fun _ _ F => gR rfl rfl (arm_move (.inl rfl) (F.k 8 (Value.int IntKind.i64 0))).b, ?_⟩
                refine ⟨fun _ _ F => gR rfl rfl (arm_move (.inl rfl) (F.k 10 (Value.int IntKind.i64 0))).b, ?_⟩
                refine ⟨fun _ _ F => gR rfl rfl (arm_bin rfl (F.f 0 rfl) (F.f 1 rfl) (fun _ => rfl) (fun _ => rfl)).b, ?_⟩
                refine ⟨fun _ _ F => gR rfl rfl (arm_move (.inl rfl) (F.f 2 rfl)).b, ?_⟩
                refine ⟨fun _ _ F => gG F rfl rfl rfl rfl (arm_loadF rfl (F.k 7 (Value.pointer (some ⟨g7, 0, none⟩))) (V7.mono F.below)).b, ?_⟩
                refine ⟨fun _ _ F => gG F rfl rfl rfl rfl (arm_loadF rfl (F.k 9 (Value.pointer (some ⟨g9, 0, none⟩))) (V9.mono F.below)).b, ?_⟩
                refine ⟨fun _ _ F => gG F rfl rfl rfl rfl (arm_C2 rfl (enters Try.func16 rfl rfl) (F.f 4 rfl) (F.f 5 rfl) (fun va vb w h1 h2 => q_Same va vb (Fq.low s p q) (Fq.low s p q) w h1 h2 ((Fq.ok_low (s := s) bp bq H5.out).mono (by decide)) ((Fq.ok_low (s := s) bp bq H5.out).mono (by decide))) (fun _ _ h => by have h' : RetV _ _ _ _ := h; rw [Fq.same_refl (Fq.low s p q)] at h'; exact ofV h')).b, ?_⟩
                refine ⟨fun _ _ F => gR rfl rfl (arm_pick rfl (F.f 3 rfl) (fun _ => (F.f 6 rfl)) (fun h => by cases h)).b, ?_⟩
                refine ⟨fun _ _ F => gR rfl rfl (arm_move (.inl rfl) (F.f 7 rfl)).b, ?_⟩
                refine ⟨fun _ _ F => gG F rfl rfl rfl rfl (arm_move (.inl rfl) (F.k 8 (Value.int IntKind.i64 0))).b, ?_⟩
                refine ⟨fun _ _ F => gG F rfl rfl rfl rfl (arm_bin rfl (F.f 9 rfl) Is.const (fun _ => rfl) (fun _ => rfl)).b, ?_⟩
                refine ⟨fun _ _ F => gG F rfl rfl rfl rfl (arm_move (.inl rfl) (F.f 10 rfl)).b, ?_⟩
                refine ⟨fun _ _ F => gG F rfl rfl rfl rfl (arm_loadF rfl (F.k 7 (Value.pointer (some ⟨g7, 0, none⟩))) (V7.mono F.below)).b, ?_⟩
                refine ⟨fun _ _ F => gG F rfl rfl rfl rfl (arm_C1 rfl (enters Try.func13 rfl rfl) (F.f 12 rfl) (fun va w h1 => q_rValid va (Fq.low s p q) w h1 ((Fq.ok_low (s := s) bp bq H5.out).mono (by decide)).p ((Fq.ok_low (s := s) bp bq H5.out).mono (by decide)).q) (fun _ _ h => by have h' : RetV _ _ _ _ := h; rw [(low_valid H5.out)] at h'; exact ofV h')).b, ?_⟩
                refine ⟨fun _ _ F => gG F rfl rfl rfl rfl (arm_pick rfl (F.f 11 rfl) (fun h => by cases h) (fun _ => (F.f 13 rfl))).b, ?_⟩
                refine ⟨fun _ _ F => gR rfl rfl (arm_pick rfl (F.f 8 rfl) (fun _ => (F.f 14 rfl)) (fun h => by cases h)).b, ?_⟩
                refine ⟨fun _ _ F => gR rfl rfl (arm_move (.inl rfl) (F.f 15 rfl)).b, ?_⟩
                refine ⟨fun _ _ F => gG F rfl rfl rfl rfl (arm_C0 rfl (enters Try.func11 rfl rfl)  (fun w => c_awake2 w) (fun _ _ h => ofV h)).b, ?_⟩
                refine ⟨fun _ _ F => gR rfl rfl (arm_pick rfl (F.f 16 rfl) (fun _ => (F.f 17 rfl)) (fun h => by cases h)).b, ?_⟩
                refine ⟨fun _ _ F => gR rfl rfl (arm_move (.inr rfl) (F.f 18 rfl)).b, ?_⟩
                exact trivial
              intro E' hE gp wp bp G Gs
              obtain rfl : E' = [] := by simpa [subs] using hE
              have e_19 : gp 19 = Value.bool true := G 19 2 _ (by simp) rfl
              clear G Gs hE
              simp only [lMaT10]
              simp only [qA, setD, qZ, qS, e_19]
              refine wpAny_done (by kernel_rfl) ?_ _
              go_wp2_with fail
              go_meet
              case rel => exact ⟨rfl, (V0.mono bp), (V3.mono bp), (V5.mono bp), (V7.mono bp), (V9.mono bp), (hb1.trans (bp.mono hb1.size))⟩
            case rest =>
            clear V0 V3 V5 V7 V9 hb1
            obtain ⟨rfl, V0, V3, V5, V7, V9, hb1⟩ := hcut
            go_wp2
            go_ret
            exact ⟨rfl, hb1⟩
        · subst h3
          have H4 : Hid (decide (nl q = N) = false) := Lib.hid (decide_eq_false h4)
          have bp : nl p ≤ 12 := h1
          have HL : Hid (false = decide (12 < (nl p : Int))) := Lib.hid (by symm; apply decide_eq_false; omega)
          have HN : Hid (false = decide (12 < (N : Int))) := Lib.hid (by symm; apply decide_eq_false; omega)
          clear h1 h2 h4
          go_upto_region 5 with (fail)
          go_cut [69] (fun s_69 wx => s_69 = Value.bool true ∧ VarPt wx w.heap.size A B s (nl p) p N q ∧ VarQ wx g3 (ratioX A B) ∧ VarQ wx g5 (ratioX A B) ∧ Below w.heap.size w wx)
          case first =>
            refine tF Try.f5 5 (lMaT11 w p N q) [] 24 0 ?_ ?_
            · refine ⟨fun _ _ F => gR rfl rfl (arm_fieldP rfl (F.k 1 (Value.pointer (some ⟨w.heap.size, 0, none⟩))) (run_fieldP3 _)).b, ?_⟩
              refine ⟨fun _ _ F => gR rfl rfl (arm_fieldN rfl (F.f 0 rfl)).b, ?_⟩
              refine ⟨fun _ _ F => gR rfl rfl (arm_loadQ3 rfl (F.f 1 rfl) (V0.mono F.below)).b, ?_⟩
              refine ⟨fun _ _ F => gR rfl rfl (arm_lenW rfl (F.f 2 rfl)).b, ?_⟩
              refine ⟨fun _ _ F => gR rfl rfl (arm_bin rfl (F.f 3 rfl) Is.const (fun _ => rfl) (fun w => by rw [HL.out]; rfl)).b, ?_⟩
              refine ⟨fun _ _ F => gR rfl rfl (arm_move (.inl rfl) (F.f 4 rfl)).b, ?_⟩
              refine ⟨fun _ _ F => gG F rfl rfl rfl rfl (arm_fieldP rfl (F.k 1 (Value.pointer (some ⟨w.heap.size, 0, none⟩))) (run_fieldP4 _)).b, ?_⟩
              refine ⟨fun _ _ F => gG F rfl rfl rfl rfl (arm_fieldN rfl (F.f 6 rfl)).b, ?_⟩
              refine ⟨fun _ _ F => gG F rfl rfl rfl rfl (arm_loadQ4 rfl (F.f 7 rfl) (V0.mono F.below)).b, ?_⟩
              refine ⟨fun _ _ F => gG F rfl rfl rfl rfl (arm_lenW rfl (F.f 8 rfl)).b, ?_⟩
              refine ⟨fun _ _ F => gG F rfl rfl rfl rfl (arm_bin rfl (F.f 9 rfl) Is.const (fun _ => rfl) (fun w => by rw [HN.out]; rfl)).b, ?_⟩
              refine ⟨fun _ _ F => gR rfl rfl (arm_pick rfl (F.f 5 rfl) (fun h => by cases h) (fun _ => (F.f 10 rfl))).b, ?_⟩
              refine ⟨fun _ _ F => gR rfl rfl (arm_move (.inl rfl) (F.f 11 rfl)).b, ?_⟩
              refine ⟨fun _ _ F => gG F rfl rfl rfl rfl (arm_fieldP rfl (F.k 1 (Value.pointer (some ⟨w.heap.size, 0, none⟩))) (run_fieldP3 _)).b, ?_⟩
              refine ⟨fun _ _ F => gG F rfl rfl rfl rfl (arm_loadP3 rfl (F.f 13 rfl) (V0.mono F.below)).b, ?_⟩
              refine ⟨fun _ _ F => gG F rfl rfl rfl rfl (arm_C1 rfl (enters Try.func24 rfl rfl) (F.f 14 rfl) (fun va w h1 => c_ref_Valid va (nl p) p w h1 (by omega)) (fun _ _ h => by have h' : RetV _ _ _ _ := h; rw [decide_eq_true (Eq.refl (nl p))] at h'; exact ofV h')).b, ?_⟩
              refine ⟨fun _ _ F => gG F rfl rfl rfl rfl (arm_not rfl (F.f 15 rfl)).b, ?_⟩
              refine ⟨fun _ _ F => gR rfl rfl (arm_pick rfl (F.f 12 rfl) (fun h => by cases h) (fun _ => (F.f 16 rfl))).b, ?_⟩
              refine ⟨fun _ _ F => gR rfl rfl (arm_move (.inl rfl) (F.f 17 rfl)).b, ?_⟩
              refine ⟨fun _ _ F => gG F rfl rfl rfl rfl (arm_fieldP rfl (F.k 1 (Value.pointer (some ⟨w.heap.size, 0, none⟩))) (run_fieldP4 _)).b, ?_⟩
              refine ⟨fun _ _ F => gG F rfl rfl rfl rfl (arm_loadP4 rfl (F.f 19 rfl) (V0.mono F.below)).b, ?_⟩
              refine ⟨fun _ _ F => gG F rfl rfl rfl rfl (arm_C1 rfl (enters Try.func24 rfl rfl) (F.f 20 rfl) (fun va w h1 => c_ref_Valid va N q w h1 (by omega)) (fun _ _ h => by have h' : RetV _ _ _ _ := h; rw [H4.out] at h'; exact ofV h')).b, ?_⟩
              refine ⟨fun _ _ F => gG F rfl rfl rfl rfl (arm_not rfl (F.f 21 rfl)).b, ?_⟩
              refine ⟨fun _ _ F => gR rfl rfl (arm_pick rfl (F.f 18 rfl) (fun h => by cases h) (fun _ => (F.f 22 rfl))).b, ?_⟩
              exact trivial
            intro E' hE gp wp bp G Gs
            obtain rfl : E' = [] := by simpa [subs] using hE
            have e_23 : gp 23 = Value.bool true := G 23 69 _ (by simp) rfl
            clear G Gs hE
            simp only [lMaT11]
            simp only [qA, setD, qZ, qS, e_23]
            refine wpAny_done (by kernel_rfl) ?_ _
            go_wp2_with fail
            go_meet
            case rel => exact ⟨rfl, (V0.mono bp), (V3.mono bp), (V5.mono bp), (hb1.trans (bp.mono hb1.size))⟩
          case rest =>
          clear V0 V3 V5 hb1
          obtain ⟨rfl, V0, V3, V5, hb1⟩ := hcut
          go_upto_region 6 with (fail)
          go_cut [2] (fun s_2 wx => s_2 = Value.bool true ∧ VarPt wx w.heap.size A B s (nl p) p N q ∧ VarQ wx g3 (ratioX A B) ∧ VarQ wx g5 (ratioX A B) ∧ Below w.heap.size w wx)
          case first =>
            refine tF Try.f5 6 (lMaT12 ) [] 2 0 ?_ ?_
            · refine ⟨fun _ _ F => gR rfl rfl (arm_C0 rfl (enters Try.func11 rfl rfl)  (fun w => c_awake2 w) (fun _ _ h => ofV h)).b, ?_⟩
              refine ⟨fun _ _ F => gR rfl rfl (arm_move (.inr rfl) (F.f 0 rfl)).b, ?_⟩
              exact trivial
            intro E' hE gp wp bp G Gs
            obtain rfl : E' = [] := by simpa [subs] using hE
            have e_1 : gp 1 = Value.bool true := G 1 2 _ (by simp) rfl
            clear G Gs hE
            simp only [lMaT12]
            simp only [qA, setD, qZ, qS, e_1]
            refine wpAny_done (by kernel_rfl) ?_ _
            go_wp2_with fail
            go_meet
            case rel => exact ⟨rfl, (V0.mono bp), (V3.mono bp), (V5.mono bp), (hb1.trans (bp.mono hb1.size))⟩
          case rest =>
          clear V0 V3 V5 hb1
          obtain ⟨rfl, V0, V3, V5, hb1⟩ := hcut
          go_wp2
          go_ret
          exact ⟨rfl, hb1⟩
      · have H3 : Hid (decide (nl p = L) = false) := Lib.hid (decide_eq_false h3)
        have HL : Hid (false = decide (12 < (L : Int))) := Lib.hid (by symm; apply decide_eq_false; omega)
        have HN : Hid (false = decide (12 < (N : Int))) := Lib.hid (by symm; apply decide_eq_false; omega)
        clear h1 h2 h3
        go_upto_region 5 with (fail)
        go_cut [69] (fun s_69 wx => s_69 = Value.bool true ∧ VarPt wx w.heap.size A B s L p N q ∧ VarQ wx g3 (ratioX A B) ∧ VarQ wx g5 (ratioX A B) ∧ Below w.heap.size w wx)
        case first =>
          refine tF Try.f5 5 (lMaT13 w L p N) [] 24 0 ?_ ?_
          · refine ⟨fun _ _ F => gR rfl rfl (arm_fieldP rfl (F.k 1 (Value.pointer (some ⟨w.heap.size, 0, none⟩))) (run_fieldP3 _)).b, ?_⟩
            refine ⟨fun _ _ F => gR rfl rfl (arm_fieldN rfl (F.f 0 rfl)).b, ?_⟩
            refine ⟨fun _ _ F => gR rfl rfl (arm_loadQ3 rfl (F.f 1 rfl) (V0.mono F.below)).b, ?_⟩
            refine ⟨fun _ _ F => gR rfl rfl (arm_lenW rfl (F.f 2 rfl)).b, ?_⟩
            refine ⟨fun _ _ F => gR rfl rfl (arm_bin rfl (F.f 3 rfl) Is.const (fun _ => rfl) (fun w => by rw [HL.out]; rfl)).b, ?_⟩
            refine ⟨fun _ _ F => gR rfl rfl (arm_move (.inl rfl) (F.f 4 rfl)).b, ?_⟩
            refine ⟨fun _ _ F => gG F rfl rfl rfl rfl (arm_fieldP rfl (F.k 1 (Value.pointer (some ⟨w.heap.size, 0, none⟩))) (run_fieldP4 _)).b, ?_⟩
            refine ⟨fun _ _ F => gG F rfl rfl rfl rfl (arm_fieldN rfl (F.f 6 rfl)).b, ?_⟩
            refine ⟨fun _ _ F => gG F rfl rfl rfl rfl (arm_loadQ4 rfl (F.f 7 rfl) (V0.mono F.below)).b, ?_⟩
            refine ⟨fun _ _ F => gG F rfl rfl rfl rfl (arm_lenW rfl (F.f 8 rfl)).b, ?_⟩
            refine ⟨fun _ _ F => gG F rfl rfl rfl rfl (arm_bin rfl (F.f 9 rfl) Is.const (fun _ => rfl) (fun w => by rw [HN.out]; rfl)).b, ?_⟩
            refine ⟨fun _ _ F => gR rfl rfl (arm_pick rfl (F.f 5 rfl) (fun h => by cases h) (fun _ => (F.f 10 rfl))).b, ?_⟩
            refine ⟨fun _ _ F => gR rfl rfl (arm_move (.inl rfl) (F.f 11 rfl)).b, ?_⟩
            refine ⟨fun _ _ F => gG F rfl rfl rfl rfl (arm_fieldP rfl (F.k 1 (Value.pointer (some ⟨w.heap.size, 0, none⟩))) (run_fieldP3 _)).b, ?_⟩
            refine ⟨fun _ _ F => gG F rfl rfl rfl rfl (arm_loadP3 rfl (F.f 13 rfl) (V0.mono F.below)).b, ?_⟩
            refine ⟨fun _ _ F => gG F rfl rfl rfl rfl (arm_C1 rfl (enters Try.func24 rfl rfl) (F.f 14 rfl) (fun va w h1 => c_ref_Valid va L p w h1 (by omega)) (fun _ _ h => by have h' : RetV _ _ _ _ := h; rw [H3.out] at h'; exact ofV h')).b, ?_⟩
            refine ⟨fun _ _ F => gG F rfl rfl rfl rfl (arm_not rfl (F.f 15 rfl)).b, ?_⟩
            refine ⟨fun _ _ F => gR rfl rfl (arm_pick rfl (F.f 12 rfl) (fun h => by cases h) (fun _ => (F.f 16 rfl))).b, ?_⟩
            refine ⟨fun _ _ F => gR rfl rfl (arm_move (.inl rfl) (F.f 17 rfl)).b, ?_⟩
            refine ⟨fun _ _ F => gS F rfl rfl rfl rfl rfl rfl, ?_⟩
            refine ⟨fun _ _ F => gS F rfl rfl rfl rfl rfl rfl, ?_⟩
            refine ⟨fun _ _ F => gS F rfl rfl rfl rfl rfl rfl, ?_⟩
            refine ⟨fun _ _ F => gS F rfl rfl rfl rfl rfl rfl, ?_⟩
            refine ⟨fun _ _ F => gR rfl rfl (arm_pick rfl (F.f 18 rfl) (fun _ => Is.const) (fun h => by cases h)).b, ?_⟩
            exact trivial
          intro E' hE gp wp bp G Gs
          obtain rfl : E' = [] := by simpa [subs] using hE
          have e_23 : gp 23 = Value.bool true := G 23 69 _ (by simp) rfl
          clear G Gs hE
          simp only [lMaT13]
          simp only [qA, setD, qZ, qS, e_23]
          refine wpAny_done (by kernel_rfl) ?_ _
          go_wp2_with fail
          go_meet
          case rel => exact ⟨rfl, (V0.mono bp), (V3.mono bp), (V5.mono bp), (hb1.trans (bp.mono hb1.size))⟩
        case rest =>
        clear V0 V3 V5 hb1
        obtain ⟨rfl, V0, V3, V5, hb1⟩ := hcut
        go_upto_region 6 with (fail)
        go_cut [2] (fun s_2 wx => s_2 = Value.bool true ∧ VarPt wx w.heap.size A B s L p N q ∧ VarQ wx g3 (ratioX A B) ∧ VarQ wx g5 (ratioX A B) ∧ Below w.heap.size w wx)
        case first =>
          refine tF Try.f5 6 (lMaT14 ) [] 2 0 ?_ ?_
          · refine ⟨fun _ _ F => gR rfl rfl (arm_C0 rfl (enters Try.func11 rfl rfl)  (fun w => c_awake2 w) (fun _ _ h => ofV h)).b, ?_⟩
            refine ⟨fun _ _ F => gR rfl rfl (arm_move (.inr rfl) (F.f 0 rfl)).b, ?_⟩
            exact trivial
          intro E' hE gp wp bp G Gs
          obtain rfl : E' = [] := by simpa [subs] using hE
          have e_1 : gp 1 = Value.bool true := G 1 2 _ (by simp) rfl
          clear G Gs hE
          simp only [lMaT14]
          simp only [qA, setD, qZ, qS, e_1]
          refine wpAny_done (by kernel_rfl) ?_ _
          go_wp2_with fail
          go_meet
          case rel => exact ⟨rfl, (V0.mono bp), (V3.mono bp), (V5.mono bp), (hb1.trans (bp.mono hb1.size))⟩
        case rest =>
        clear V0 V3 V5 hb1
        obtain ⟨rfl, V0, V3, V5, hb1⟩ := hcut
        go_wp2
        go_ret
        exact ⟨rfl, hb1⟩
    · have HL : Hid (false = decide (12 < (L : Int))) := Lib.hid (by symm; apply decide_eq_false; omega)
      have HN : Hid (true = decide (12 < (N : Int))) := Lib.hid (by symm; apply decide_eq_true; omega)
      clear h1 h2
      go_upto_region 5 with (fail)
      go_cut [69] (fun s_69 wx => s_69 = Value.bool true ∧ VarPt wx w.heap.size A B s L p N q ∧ VarQ wx g3 (ratioX A B) ∧ VarQ wx g5 (ratioX A B) ∧ Below w.heap.size w wx)
      case first =>
        refine tF Try.f5 5 (lMaT15 w L N) [] 24 0 ?_ ?_
        · refine ⟨fun _ _ F => gR rfl rfl (arm_fieldP rfl (F.k 1 (Value.pointer (some ⟨w.heap.size, 0, none⟩))) (run_fieldP3 _)).b, ?_⟩
          refine ⟨fun _ _ F => gR rfl rfl (arm_fieldN rfl (F.f 0 rfl)).b, ?_⟩
          refine ⟨fun _ _ F => gR rfl rfl (arm_loadQ3 rfl (F.f 1 rfl) (V0.mono F.below)).b, ?_⟩
          refine ⟨fun _ _ F => gR rfl rfl (arm_lenW rfl (F.f 2 rfl)).b, ?_⟩
          refine ⟨fun _ _ F => gR rfl rfl (arm_bin rfl (F.f 3 rfl) Is.const (fun _ => rfl) (fun w => by rw [HL.out]; rfl)).b, ?_⟩
          refine ⟨fun _ _ F => gR rfl rfl (arm_move (.inl rfl) (F.f 4 rfl)).b, ?_⟩
          refine ⟨fun _ _ F => gG F rfl rfl rfl rfl (arm_fieldP rfl (F.k 1 (Value.pointer (some ⟨w.heap.size, 0, none⟩))) (run_fieldP4 _)).b, ?_⟩
          refine ⟨fun _ _ F => gG F rfl rfl rfl rfl (arm_fieldN rfl (F.f 6 rfl)).b, ?_⟩
          refine ⟨fun _ _ F => gG F rfl rfl rfl rfl (arm_loadQ4 rfl (F.f 7 rfl) (V0.mono F.below)).b, ?_⟩
          refine ⟨fun _ _ F => gG F rfl rfl rfl rfl (arm_lenW rfl (F.f 8 rfl)).b, ?_⟩
          refine ⟨fun _ _ F => gG F rfl rfl rfl rfl (arm_bin rfl (F.f 9 rfl) Is.const (fun _ => rfl) (fun w => by rw [HN.out]; rfl)).b, ?_⟩
          refine ⟨fun _ _ F => gR rfl rfl (arm_pick rfl (F.f 5 rfl) (fun h => by cases h) (fun _ => (F.f 10 rfl))).b, ?_⟩
          refine ⟨fun _ _ F => gR rfl rfl (arm_move (.inl rfl) (F.f 11 rfl)).b, ?_⟩
          refine ⟨fun _ _ F => gS F rfl rfl rfl rfl rfl rfl, ?_⟩
          refine ⟨fun _ _ F => gS F rfl rfl rfl rfl rfl rfl, ?_⟩
          refine ⟨fun _ _ F => gS F rfl rfl rfl rfl rfl rfl, ?_⟩
          refine ⟨fun _ _ F => gS F rfl rfl rfl rfl rfl rfl, ?_⟩
          refine ⟨fun _ _ F => gR rfl rfl (arm_pick rfl (F.f 12 rfl) (fun _ => Is.const) (fun h => by cases h)).b, ?_⟩
          refine ⟨fun _ _ F => gR rfl rfl (arm_move (.inl rfl) (F.f 17 rfl)).b, ?_⟩
          refine ⟨fun _ _ F => gS F rfl rfl rfl rfl rfl rfl, ?_⟩
          refine ⟨fun _ _ F => gS F rfl rfl rfl rfl rfl rfl, ?_⟩
          refine ⟨fun _ _ F => gS F rfl rfl rfl rfl rfl rfl, ?_⟩
          refine ⟨fun _ _ F => gS F rfl rfl rfl rfl rfl rfl, ?_⟩
          refine ⟨fun _ _ F => gR rfl rfl (arm_pick rfl (F.f 18 rfl) (fun _ => Is.const) (fun h => by cases h)).b, ?_⟩
          exact trivial
        intro E' hE gp wp bp G Gs
        obtain rfl : E' = [] := by simpa [subs] using hE
        have e_23 : gp 23 = Value.bool true := G 23 69 _ (by simp) rfl
        clear G Gs hE
        simp only [lMaT15]
        simp only [qA, setD, qZ, qS, e_23]
        refine wpAny_done (by kernel_rfl) ?_ _
        go_wp2_with fail
        go_meet
        case rel => exact ⟨rfl, (V0.mono bp), (V3.mono bp), (V5.mono bp), (hb1.trans (bp.mono hb1.size))⟩
      case rest =>
      clear V0 V3 V5 hb1
      obtain ⟨rfl, V0, V3, V5, hb1⟩ := hcut
      go_upto_region 6 with (fail)
      go_cut [2] (fun s_2 wx => s_2 = Value.bool true ∧ VarPt wx w.heap.size A B s L p N q ∧ VarQ wx g3 (ratioX A B) ∧ VarQ wx g5 (ratioX A B) ∧ Below w.heap.size w wx)
      case first =>
        refine tF Try.f5 6 (lMaT16 ) [] 2 0 ?_ ?_
        · refine ⟨fun _ _ F => gR rfl rfl (arm_C0 rfl (enters Try.func11 rfl rfl)  (fun w => c_awake2 w) (fun _ _ h => ofV h)).b, ?_⟩
          refine ⟨fun _ _ F => gR rfl rfl (arm_move (.inr rfl) (F.f 0 rfl)).b, ?_⟩
          exact trivial
        intro E' hE gp wp bp G Gs
        obtain rfl : E' = [] := by simpa [subs] using hE
        have e_1 : gp 1 = Value.bool true := G 1 2 _ (by simp) rfl
        clear G Gs hE
        simp only [lMaT16]
        simp only [qA, setD, qZ, qS, e_1]
        refine wpAny_done (by kernel_rfl) ?_ _
        go_wp2_with fail
        go_meet
        case rel => exact ⟨rfl, (V0.mono bp), (V3.mono bp), (V5.mono bp), (hb1.trans (bp.mono hb1.size))⟩
      case rest =>
      clear V0 V3 V5 hb1
      obtain ⟨rfl, V0, V3, V5, hb1⟩ := hcut
      go_wp2
      go_ret
      exact ⟨rfl, hb1⟩
  · have HL : Hid (true = decide (12 < (L : Int))) := Lib.hid (by symm; apply decide_eq_true; omega)
    clear h1
    go_upto_region 5 with (fail)
    go_cut [69] (fun s_69 wx => s_69 = Value.bool true ∧ VarPt wx w.heap.size A B s L p N q ∧ VarQ wx g3 (ratioX A B) ∧ VarQ wx g5 (ratioX A B) ∧ Below w.heap.size w wx)
    case first =>
      refine tF Try.f5 5 (lMaT17 w L) [] 24 0 ?_ ?_
      · refine ⟨fun _ _ F => gR rfl rfl (arm_fieldP rfl (F.k 1 (Value.pointer (some ⟨w.heap.size, 0, none⟩))) (run_fieldP3 _)).b, ?_⟩
        refine ⟨fun _ _ F => gR rfl rfl (arm_fieldN rfl (F.f 0 rfl)).b, ?_⟩
        refine ⟨fun _ _ F => gR rfl rfl (arm_loadQ3 rfl (F.f 1 rfl) (V0.mono F.below)).b, ?_⟩
        refine ⟨fun _ _ F => gR rfl rfl (arm_lenW rfl (F.f 2 rfl)).b, ?_⟩
        refine ⟨fun _ _ F => gR rfl rfl (arm_bin rfl (F.f 3 rfl) Is.const (fun _ => rfl) (fun w => by rw [HL.out]; rfl)).b, ?_⟩
        refine ⟨fun _ _ F => gR rfl rfl (arm_move (.inl rfl) (F.f 4 rfl)).b, ?_⟩
        refine ⟨fun _ _ F => gS F rfl rfl rfl rfl rfl rfl, ?_⟩
        refine ⟨fun _ _ F => gS F rfl rfl rfl rfl rfl rfl, ?_⟩
        refine ⟨fun _ _ F => gS F rfl rfl rfl rfl rfl rfl, ?_⟩
        refine ⟨fun _ _ F => gS F rfl rfl rfl rfl rfl rfl, ?_⟩
        refine ⟨fun _ _ F => gS F rfl rfl rfl rfl rfl rfl, ?_⟩
        refine ⟨fun _ _ F => gR rfl rfl (arm_pick rfl (F.f 5 rfl) (fun _ => Is.const) (fun h => by cases h)).b, ?_⟩
        refine ⟨fun _ _ F => gR rfl rfl (arm_move (.inl rfl) (F.f 11 rfl)).b, ?_⟩
        refine ⟨fun _ _ F => gS F rfl rfl rfl rfl rfl rfl, ?_⟩
        refine ⟨fun _ _ F => gS F rfl rfl rfl rfl rfl rfl, ?_⟩
        refine ⟨fun _ _ F => gS F rfl rfl rfl rfl rfl rfl, ?_⟩
        refine ⟨fun _ _ F => gS F rfl rfl rfl rfl rfl rfl, ?_⟩
        refine ⟨fun _ _ F => gR rfl rfl (arm_pick rfl (F.f 12 rfl) (fun _ => Is.const) (fun h => by cases h)).b, ?_⟩
        refine ⟨fun _ _ F => gR rfl rfl (arm_move (.inl rfl) (F.f 17 rfl)).b, ?_⟩
        refine ⟨fun _ _ F => gS F rfl rfl rfl rfl rfl rfl, ?_⟩
        refine ⟨fun _ _ F => gS F rfl rfl rfl rfl rfl rfl, ?_⟩
        refine ⟨fun _ _ F => gS F rfl rfl rfl rfl rfl rfl, ?_⟩
        refine ⟨fun _ _ F => gS F rfl rfl rfl rfl rfl rfl, ?_⟩
        refine ⟨fun _ _ F => gR rfl rfl (arm_pick rfl (F.f 18 rfl) (fun _ => Is.const) (fun h => by cases h)).b, ?_⟩
        exact trivial
      intro E' hE gp wp bp G Gs
      obtain rfl : E' = [] := by simpa [subs] using hE
      have e_23 : gp 23 = Value.bool true := G 23 69 _ (by simp) rfl
      clear G Gs hE
      simp only [lMaT17]
      simp only [qA, setD, qZ, qS, e_23]
      refine wpAny_done (by kernel_rfl) ?_ _
      go_wp2_with fail
      go_meet
      case rel => exact ⟨rfl, (V0.mono bp), (V3.mono bp), (V5.mono bp), (hb1.trans (bp.mono hb1.size))⟩
    case rest =>
    clear V0 V3 V5 hb1
    obtain ⟨rfl, V0, V3, V5, hb1⟩ := hcut
    go_upto_region 6 with (fail)
    go_cut [2] (fun s_2 wx => s_2 = Value.bool true ∧ VarPt wx w.heap.size A B s L p N q ∧ VarQ wx g3 (ratioX A B) ∧ VarQ wx g5 (ratioX A B) ∧ Below w.heap.size w wx)
    case first =>
      refine tF Try.f5 6 (lMaT18 ) [] 2 0 ?_ ?_
      · refine ⟨fun _ _ F => gR rfl rfl (arm_C0 rfl (enters Try.func11 rfl rfl)  (fun w => c_awake2 w) (fun _ _ h => ofV h)).b, ?_⟩
        refine ⟨fun _ _ F => gR rfl rfl (arm_move (.inr rfl) (F.f 0 rfl)).b, ?_⟩
        exact trivial
      intro E' hE gp wp bp G Gs
      obtain rfl : E' = [] := by simpa [subs] using hE
      have e_1 : gp 1 = Value.bool true := G 1 2 _ (by simp) rfl
      clear G Gs hE
      simp only [lMaT18]
      simp only [qA, setD, qZ, qS, e_1]
      refine wpAny_done (by kernel_rfl) ?_ _
      go_wp2_with fail
      go_meet
      case rel => exact ⟨rfl, (V0.mono bp), (V3.mono bp), (V5.mono bp), (hb1.trans (bp.mono hb1.size))⟩
    case rest =>
    clear V0 V3 V5 hb1
    obtain ⟨rfl, V0, V3, V5, hb1⟩ := hcut
    go_wp2
    go_ret
    exact ⟨rfl, hb1⟩
end Go.Proofs.Ytldnimohnbjfaaa
