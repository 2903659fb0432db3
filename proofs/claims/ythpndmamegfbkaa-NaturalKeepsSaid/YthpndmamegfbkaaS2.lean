/- The operations of regions that draw their order, one proof a kind: package natural, rows of digits, variables, constants. -/
import Derived.Test.YthpndmamegfbkaaS1
namespace Go.Proofs.Ythpndmamegfbkaa
set_option linter.unusedSimpArgs false
set_option linter.unusedVariables false
open Go.RowKit
theorem enters {f : FuncId} {fn : Func} (hf : Try.prog.funcs[f]? = some fn) (hname : (fn.name == "runtime.NumGoroutine") = false) (hb : fn.body.isNone = false) (args : Array Value) (w : World) :
    (callFunc f args).run Try.prog w = .ok (.enter f args) w := by
  have h1 : fn.name ≠ "runtime.NumGoroutine" := by simpa using hname
  simp [callFunc, hf, h1]
  intro h
  simp [h] at hb
theorem ofNew {w w' : World} {N : Nat} {e : Ending} (h : RetNew w N e w') : ∃ v, e = .returned v ∧ (Sp.nat N).p w' v ∧ Below w.heap.size w w' := by
  obtain ⟨v, rfl, hn, hb⟩ := h; exact ⟨v, rfl, hn.isN, hb⟩
theorem ofV {w w' : World} {u : Value} {e : Ending} (h : RetV w u e w') : ∃ v, e = .returned v ∧ (Sp.val u).p w' v ∧ Below w.heap.size w w' := ⟨u, h.1, rfl, h.2⟩
/-- Block g is a variable that holds the number N. -/
def VarI (w : World) (g N : Nat) : Prop := ∃ a c, VarB w g a (nl N) c ∧ IsN w (.agg #[.slice a (nl N) c]) N
theorem VarI.mono {w w' : World} {g N : Nat} (h : VarI w g N) (hb : Below w.heap.size w w') : VarI w' g N := by
  obtain ⟨a, c, h1, h2⟩ := h; exact ⟨a, c, h1.mono hb h1.lt, h2.mono hb⟩
section
variable {ops : Array Oper} {Q : Exit → Act → World → Prop} {o : Oper} {a : Act} {w : World} {x y : Operand} {m n : Nat} {tt : Array TypeId}
theorem run_load (w : World) (g L c : Nat) (s : Option Addr) (h : VarB w g s L c) : (Instr.loadAt 24 (.pointer (some ⟨g, 0, none⟩))).run Try.prog w = .ok (.agg #[.slice s L c]) w := by
  have c1 := h.cell
  go_simp
theorem arm_load {g : Nat} (ho : o.op = .load 24 x) (hx : Is a w x (.val (.pointer (some ⟨g, 0, none⟩)))) (h : VarI w g n) : Arm Try.prog Q o a w (.nat n) := by
  obtain ⟨s, c, h1, h2⟩ := h
  have hx' : a.eval x = .pointer (some ⟨g, 0, none⟩) := hx
  refine arm_run (.agg #[.slice s (nl n) c]) ?_ h2
  unfold execOp
  rw [ho]
  simp only [hx', Sem.run_bind, run_load w g (nl n) c s h1, Result.andThen, Sem.run_pure]
theorem arm_own {vs : List Int} {L : Nat} {parts : Array (Nat × Operand)} (ho : o.op = .buildSlice 22 L parts) (hp : (parts.map fun (i, x) => (i, a.eval x)) = ((List.range vs.length).zip (vs.map (Value.int .u32))).toArray)
    (hr : ∀ w : World, (Instr.buildSlice 22 L ((List.range vs.length).zip (vs.map (Value.int .u32))).toArray).run Try.prog w = .ok (.slice (some ⟨w.heap.size, 0, none⟩) L L) (w.alloc (.cells (vs.map (Value.int .u32)).toArray 42)))
    (hv : OwnR (w.alloc (.cells (vs.map (Value.int .u32)).toArray 42)) w.heap.size L n) : Arm Try.prog Q o a w (.row L n) := by
  intro K hK
  unfold Oper.wp execOp
  rw [ho]
  simp only [hp, Sem.run_bind, hr, Result.andThen, Sem.run_pure, Oper.upon_value]
  exact hK _ _ ⟨_, rfl, hv⟩ ((Below.refl _ _).alloc (Nat.le_refl _) _)
theorem run_own1 (v : Int) (w : World) : (Instr.buildSlice 22 1 #[(0, .int .u32 v)]).run Try.prog w = .ok (.slice (some ⟨w.heap.size, 0, none⟩) 1 1) (w.alloc (.cells #[.int .u32 v] 42)) := by
  go_simp
theorem run_own2 (u v : Int) (w : World) : (Instr.buildSlice 22 2 #[(0, .int .u32 u), (1, .int .u32 v)]).run Try.prog w = .ok (.slice (some ⟨w.heap.size, 0, none⟩) 2 2) (w.alloc (.cells #[.int .u32 u, .int .u32 v] 42)) := by
  go_simp
theorem run_own3 (u v z : Int) (w : World) : (Instr.buildSlice 22 3 #[(0, .int .u32 u), (1, .int .u32 v), (2, .int .u32 z)]).run Try.prog w = .ok (.slice (some ⟨w.heap.size, 0, none⟩) 3 3) (w.alloc (.cells #[.int .u32 u, .int .u32 v, .int .u32 z] 42)) := by
  go_simp
theorem arm_own1 {u : Int} (ho : o.op = .buildSlice 22 1 #[(0, .const (.int .u32 u))]) (e : u = (n : Int)) (hn : n < 4294967296) : Arm Try.prog Q o a w (.row 1 n) := by
  subst e
  exact arm_own (vs := [(n : Int)]) ho (by simp [Act.eval, List.range, List.range.loop]) (fun w => run_own1 _ w) (own1 w n hn)
theorem arm_own2 {u v : Int} (ho : o.op = .buildSlice 22 2 #[(0, .const (.int .u32 u)), (1, .const (.int .u32 v))]) (N : Nat) (eu : u = (m : Int)) (ev : v = (n : Int)) (hm : m < 4294967296) (hn : n < 4294967296) (hN : N = m + 4294967296 * n) : Arm Try.prog Q o a w (.row 2 N) := by
  subst eu; subst ev; subst hN
  exact arm_own (vs := [(m : Int), (n : Int)]) ho (by simp [Act.eval, List.range, List.range.loop]) (fun w => run_own2 _ _ w) (own2 w m n hm hn)
theorem own3 (w : World) (x y z : Nat) (hx : x < 4294967296) (hy : y < 4294967296) (hz : z < 4294967296) : OwnR (w.alloc (.cells #[.int .u32 (x : Int), .int .u32 (y : Int), .int .u32 (z : Int)] 42)) w.heap.size 3 (x + 4294967296 * y + 4294967296 ^ 2 * z) := by
  refine ⟨by omega, _, heap_alloc_new w _, ?_⟩
  have h0 : D (x + 4294967296 * y + 4294967296 ^ 2 * z) 0 = x := by unfold D; rw [Nat.pow_zero, Nat.div_one]; omega
  have h1 : D (x + 4294967296 * y + 4294967296 ^ 2 * z) 1 = y := by unfold D; rw [Nat.pow_one]; omega
  have h2 : D (x + 4294967296 * y + 4294967296 ^ 2 * z) 2 = z := by unfold D; omega
  simp [List.range, List.range.loop, h0, h1, h2]
theorem arm_own3 {u v z : Int} {k : Nat} (ho : o.op = .buildSlice 22 3 #[(0, .const (.int .u32 u)), (1, .const (.int .u32 v)), (2, .const (.int .u32 z))]) (N : Nat) (eu : u = (m : Int)) (ev : v = (n : Int)) (ez : z = (k : Int)) (hm : m < 4294967296) (hn : n < 4294967296) (hk : k < 4294967296)
    (hN : N = m + 4294967296 * n + 4294967296 ^ 2 * k) : Arm Try.prog Q o a w (.row 3 N) := by
  subst eu; subst ev; subst ez; subst hN
  exact arm_own (vs := [(m : Int), (n : Int), (k : Int)]) ho (by simp [Act.eval, List.range, List.range.loop]) (fun w => run_own3 _ _ _ w) (own3 w m n k hm hn hk)
theorem arm_nat {L : Nat} (ho : o.op = .call { callee := .value (.func 29), args := #[x], argTypes := tt }) (hx : Is a w x (.row L n)) (hL : L ≤ 1000000000000) (hn : nl n = L) : Arm Try.prog Q o a w (.nat n) := by
  obtain ⟨g, h1, h2⟩ := hx
  refine arm_call ho (enters Try.func29 rfl rfl) (R := fun e w' => RetNew w n e w') ?_ (fun _ _ h => ofNew h)
  have : #[x].map a.eval = #[.slice (some ⟨g, 0, none⟩) L L] := by simp [h1]
  rw [this]
  exact c_nat _ L L n w h2.rw' hL hn
theorem arm_two {f : FuncId} {s : Sp} {R : World → Ending → World → Prop} (ho : o.op = .call { callee := .value (.func f), args := #[x, y], argTypes := tt }) (hen : ∀ (vs : Array Value) w, (callFunc f vs).run Try.prog w = .ok (.enter f vs) w)
    (hx : Is a w x (.nat m)) (hy : Is a w y (.nat n)) (hc : ∀ va vb w, IsN w va m → IsN w vb n → Calls Try.prog f #[va, vb] w (R w)) (hR : ∀ e w', R w e w' → ∃ v, e = .returned v ∧ s.p w' v ∧ Below w.heap.size w w') : Arm Try.prog Q o a w s :=
  arm_call ho hen (R := R w) (by simpa using hc _ _ w hx hy) hR
theorem arm_one {f : FuncId} {s : Sp} {R : World → Ending → World → Prop} (ho : o.op = .call { callee := .value (.func f), args := #[x], argTypes := tt }) (hen : ∀ (vs : Array Value) w, (callFunc f vs).run Try.prog w = .ok (.enter f vs) w)
    (hx : Is a w x (.nat m)) (hc : ∀ va w, IsN w va m → Calls Try.prog f #[va] w (R w)) (hR : ∀ e w', R w e w' → ∃ v, e = .returned v ∧ s.p w' v ∧ Below w.heap.size w w') : Arm Try.prog Q o a w s :=
  arm_call ho hen (R := R w) (by simpa using hc _ w hx) hR
theorem arm_Same (ho : o.op = .call { callee := .value (.func 16), args := #[x, y], argTypes := tt }) (hx : Is a w x (.nat m)) (hy : Is a w y (.nat n)) (hm : nl m ≤ 1000000000000) (hn : nl n ≤ 1000000000000) {b : Bool} (hb : decide (m = n) = b) :
    Arm Try.prog Q o a w (.val (.bool b)) := by
  subst hb
  exact arm_two ho (enters Try.func16 rfl rfl) hx hy (R := fun w => RetV w (.bool (decide (m = n)))) (fun va vb w h1 h2 => c_ref_Same va vb m n w h1 h2 hm hn) (fun _ _ h => ofV h)
theorem arm_Add (ho : o.op = .call { callee := .value (.func 21), args := #[x, y], argTypes := tt }) (hx : Is a w x (.nat m)) (hy : Is a w y (.nat n)) (hm : nl m ≤ 1000000000000) (hn : nl n ≤ 1000000000000) {N : Nat} (hN : m + n = N) : Arm Try.prog Q o a w (.nat N) := by
  subst hN
  exact arm_two ho (enters Try.func21 rfl rfl) hx hy (R := fun w => RetNew w (m + n)) (fun va vb w h1 h2 => c_natural_Add va vb m n w h1 h2 hm hn) (fun _ _ h => ofNew h)
theorem arm_Mul (ho : o.op = .call { callee := .value (.func 22), args := #[x, y], argTypes := tt }) (hx : Is a w x (.nat m)) (hy : Is a w y (.nat n)) (hm : nl m ≤ 1000000000000) (hn : nl n ≤ 1000000000000) {N : Nat} (hN : m * n = N) : Arm Try.prog Q o a w (.nat N) := by
  subst hN
  exact arm_two ho (enters Try.func22 rfl rfl) hx hy (R := fun w => RetNew w (m * n)) (fun va vb w h1 h2 => c_natural_Mul va vb m n w h1 h2 hm hn) (fun _ _ h => ofNew h)
theorem arm_Gcd (ho : o.op = .call { callee := .value (.func 19), args := #[x, y], argTypes := tt }) (hx : Is a w x (.nat m)) (hy : Is a w y (.nat n)) (hm : nl m ≤ 1000000000000) (hn : nl n ≤ 1000000000000) {N : Nat} (hN : Nat.gcd m n = N) : Arm Try.prog Q o a w (.nat N) := by
  subst hN
  exact arm_two ho (enters Try.func19 rfl rfl) hx hy (R := fun w => RetNew w (Nat.gcd m n)) (fun va vb w h1 h2 => c_natural_Gcd va vb m n w h1 h2 hm hn) (fun _ _ h => ofNew h)
theorem arm_Bits (ho : o.op = .call { callee := .value (.func 32), args := #[x], argTypes := tt }) (hx : Is a w x (.nat m)) (hm : nl m ≤ 1000000000000) {N : Int} (hN : ((len2 m : Nat) : Int) = N) : Arm Try.prog Q o a w (.val (.int .i64 N)) := by
  subst hN
  exact arm_one ho (enters Try.func32 rfl rfl) hx (R := fun w => RetV w (.int .i64 ((len2 m : Nat) : Int))) (fun va w h1 => c_natural_Bits va m w h1 hm) (fun _ _ h => ofV h)
theorem arm_Format (ho : o.op = .call { callee := .value (.func 26), args := #[x], argTypes := tt }) (hx : Is a w x (.nat m)) (hm : nl m ≤ 1000000000000) {s : ByteArray} (hs : fmtB m = s) : Arm Try.prog Q o a w (.val (.string s)) := by
  subst hs
  exact arm_one ho (enters Try.func26 rfl rfl) hx (R := fun w => RetV w (.string (fmtB m))) (fun va w h1 => c_natural_Format va m w h1 hm) (fun _ _ h => ofV h)
theorem arm_Of {v : Int} (ho : o.op = .call { callee := .value (.func 34), args := #[.const (.int .u64 v)], argTypes := tt }) (e : v = (n : Int)) (hn : n < 18446744073709551616) : Arm Try.prog Q o a w (.nat n) := by
  subst e
  refine arm_call ho (enters Try.func34 rfl rfl) (R := fun e w' => RetNew w n e w') ?_ (fun _ _ h => ofNew h)
  simpa [Act.eval] using c_natural_Of n w hn
theorem arm_Cmp (ho : o.op = .call { callee := .value (.func 31), args := #[x, y], argTypes := tt }) (hx : Is a w x (.nat m)) (hy : Is a w y (.nat n)) (hm : nl m ≤ 1000000000000) (hn : nl n ≤ 1000000000000) {N : Int} (hN : cmpI m n = N) : Arm Try.prog Q o a w (.val (.int .i64 N)) := by
  subst hN
  exact arm_two ho (enters Try.func31 rfl rfl) hx hy (R := fun w => RetV w (.int .i64 (cmpI m n))) (fun va vb w h1 h2 => c_natural_Cmp va vb m n w h1 h2 (by omega) (by omega)) (fun _ _ h => ofV h)
theorem arm_bin {op : BinOp} {t t' : TypeId} {u v r : Value} (ho : o.op = .binOp op t x y t') (hx : Is a w x (.val u)) (hy : Is a w y (.val v)) (hg : ∀ w : World, (eqGuard op t x y u v).run Try.prog w = .ok () w)
    (hr : ∀ w : World, (binOp op t u v).run Try.prog w = .ok r w) : Arm Try.prog Q o a w (.val r) := by
  have hx' : a.eval x = u := hx
  have hy' : a.eval y = v := hy
  refine arm_run r ?_ rfl
  unfold execOp
  rw [ho]
  simp only [hx', hy', Sem.run_bind, hg, hr, Result.andThen, Sem.run_pure]
end
end Go.Proofs.Ythpndmamegfbkaa
