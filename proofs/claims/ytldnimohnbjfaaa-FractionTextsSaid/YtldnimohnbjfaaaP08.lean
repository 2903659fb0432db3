/- Stores that leave an unnamed world behind; calls of whatever contract in tables. magnitude of package fraction, size of the reference. mark, Sign of package fraction; Sign of the reference. Cmp, Lerp, Int, Ratio; copied. one of package fraction. -/
import Derived.Test.YtldnimohnbjfaaaP07
namespace Go.Proofs.Ytldnimohnbjfaaa
set_option linter.unusedSimpArgs false
set_option linter.unusedVariables false
set_option maxRecDepth 100000
open Go.RowKit
/-- In w' only block g may differ from what it was in w. -/
structure Upd (w : World) (g : Nat) (w' : World) : Prop where
  os : w'.os = w.os
  tape : w'.tape = w.tape
  output : w'.output = w.output
  size : w'.heap.size = w.heap.size
  block : ∀ k, k ≠ g → w'.heap[k]? = w.heap[k]?
theorem Upd.cell (w : World) (g k : Nat) (u : Value) : Upd w g (w.setCell ⟨g, k, none⟩ u) := ⟨rfl, rfl, rfl, by simp [World.setCell], fun i hi => Below.heap_setCell _ _ _ _ hi⟩
theorem Upd.trans {a b c : World} {g : Nat} (h : Upd a g b) (k : Upd b g c) : Upd a g c := ⟨k.os.trans h.os, k.tape.trans h.tape, k.output.trans h.output, k.size.trans h.size, fun i hi => (k.block i hi).trans (h.block i hi)⟩
theorem Upd.below {W w w' : World} {g B : Nat} (h : Below B W w) (u : Upd w g w') (hB : B ≤ g) : Below B W w' :=
  h.trans ⟨u.os, u.tape, u.output, by rw [u.size]; exact Nat.le_refl _, fun k hk => u.block k (by omega)⟩
/-- Block g is a variable: no row of digits lies there. -/
def Own (w : World) (g : Nat) : Prop := ∃ (cs : Array Value) (t : TypeId), w.heap[g]? = some (Obj.cells cs t (0, 0)) ∧ ∀ (k : Nat) (n : Int), cs[k]? ≠ some (Value.int .u32 n)
theorem VarB.own {w : World} {g L c : Nat} {a : Option Addr} (h : VarB w g a L c) : Own w g := ⟨_, _, h, fun k n => by
  match k with
  | 0 => intro h; cases h
  | k + 1 => intro h; simp at h⟩
theorem VarFB.own {w : World} {g L c M d : Nat} {s : Bool} {a b : Option Addr} (h : VarFB w g s a L c b M d) : Own w g := ⟨_, _, h, fun k n => by
  match k with
  | 0 => intro h; cases h
  | 1 => intro h; cases h
  | 2 => intro h; cases h
  | k + 3 => intro h; simp at h⟩
theorem VarI.own {w : World} {g N : Nat} (h : VarI w g N) : Own w g := by obtain ⟨_, _, h, _⟩ := h; exact h.own
theorem VarF.own {w : World} {g p q : Nat} {s : Bool} (h : VarF w g s p q) : Own w g := by obtain ⟨_, _, _, _, h, _⟩ := h; exact h.own
theorem Own.ne {w : World} {g k o : Nat} {x : Int} (h : Own w g) (hd : w.cell? ⟨k, o, none⟩ = some (.int .u32 x)) : k ≠ g := by
  rintro rfl
  obtain ⟨cs, t, h1, h2⟩ := h
  rw [cell_of_row w k o _ _ (0, 0) h1] at hd
  exact h2 o x hd
section
variable {w w' : World} {g g' N L c M d p q : Nat} {s : Bool} {a b : Option Addr}
theorem IsR.upd {v : Value} {L N : Nat} (h : IsR w v L N) (o : Own w g) (u : Upd w g w') : IsR w' v L N := by
  obtain ⟨x, cap, rfl, hc, hx⟩ := h
  refine ⟨x, cap, rfl, hc, hx.lt, fun hL => ?_⟩
  obtain ⟨b, off, rfl, hd⟩ := hx.cells hL
  have hne : b ≠ g := o.ne (by simpa using hd 0 hL)
  refine ⟨b, off, rfl, fun j hj => ?_⟩
  rw [World.cell?_of_block (u.block b hne)]; exact hd j hj
theorem IsN.upd {v : Value} (h : IsN w v N) (o : Own w g) (u : Upd w g w') : IsN w' v N := IsR.upd h o u
theorem IsF.upd {v : Value} (h : IsF w v s p q) (o : Own w g) (u : Upd w g w') : IsF w' v s p q := by
  obtain ⟨x, cx, y, cy, rfl, h1, h2⟩ := h; exact ⟨x, cx, y, cy, rfl, h1.upd o u, h2.upd o u⟩
theorem VarB.upd (h : VarB w g' a L c) (o : Own w g) (u : Upd w g w') (hn : g' ≠ g) : VarB w' g' a L c := (u.block g' hn).trans h
theorem VarFB.upd (h : VarFB w g' s a L c b M d) (o : Own w g) (u : Upd w g w') (hn : g' ≠ g) : VarFB w' g' s a L c b M d := (u.block g' hn).trans h
theorem VarI.upd (h : VarI w g' N) (o : Own w g) (u : Upd w g w') (hn : g' ≠ g) : VarI w' g' N := by
  obtain ⟨x, cx, h1, h2⟩ := h; exact ⟨x, cx, h1.upd o u hn, h2.upd o u⟩
theorem VarF.upd (h : VarF w g' s p q) (o : Own w g) (u : Upd w g w') (hn : g' ≠ g) : VarF w' g' s p q := by
  obtain ⟨x, cx, y, cy, h0, h1, h2⟩ := h; exact ⟨x, cx, y, cy, h0.upd o u hn, h1.upd o u, h2.upd o u⟩
theorem VarI.zero (h : VarB w g none 0 0) : VarI w g 0 := ⟨none, 0, by rw [nl_zero]; exact h, by rw [nl_zero]; exact NewN.isN (base := 0) NewN.of_zero⟩
theorem VarF.zero (h : VarFB w g false none 0 0 none 0 0) : VarF w g false 0 0 := by
  have h0 : IsN w (.agg #[.slice none (nl 0) 0]) 0 := by rw [nl_zero]; exact NewN.isN (base := 0) NewN.of_zero
  exact ⟨none, 0, none, 0, by rw [nl_zero]; exact h, h0, h0⟩
theorem VarFB.upd_put {s' : Bool} {a' b' : Option Addr} {L' c' M' d' : Nat} : Upd w g (putF w g s' a' L' c' b' M' d') := ((Upd.cell w g 0 _).trans (Upd.cell _ g 1 _)).trans (Upd.cell _ g 2 _)
end
section
variable {Q : Exit → Act → World → Prop} {md : Region.Mode} {ops : Array Oper} {o : Oper} {a : Act} {w : World} {j fuel : Nat} {listed : Array Bool} {x y : Operand} {g L c M d N p q : Nat} {s t : Bool} {u v : Option Addr}
theorem wp_storeN {K : Act → World → Prop} (hop : o.op = .store 24 x y) (hd : o.dst = none) (hx : a.eval x = .pointer (some ⟨g, 0, none⟩)) (hy : IsN w (a.eval y) N) (hv : ∃ s L c, VarB w g s L c)
    (hK : ∀ w1, Upd w g w1 → VarI w1 g N → K a w1) : Oper.wp Try.prog o a w K Q := by
  obtain ⟨s, L, c, hv⟩ := hv
  obtain ⟨x1, c1, e⟩ := hy.shape
  rw [e] at hy
  exact wp_store hop hd hx e ⟨_, _, _, rfl⟩ hv (hK _ (Upd.cell w g 0 _) ⟨x1, c1, hv.set, hy.upd hv.own (Upd.cell w g 0 _)⟩)
theorem wp_storeFr {K : Act → World → Prop} (hop : o.op = .store 26 x y) (hd : o.dst = none) (hx : a.eval x = .pointer (some ⟨g, 0, none⟩)) (hy : IsF w (a.eval y) t p q) (hv : ∃ s u L c v M d, VarFB w g s u L c v M d)
    (hK : ∀ w1, Upd w g w1 → VarF w1 g t p q → K a w1) : Oper.wp Try.prog o a w K Q := by
  obtain ⟨s, u, L, c, v, M, d, hv⟩ := hv
  obtain ⟨x1, c1, x2, c2, e, h1, h2⟩ := hy
  unfold Oper.wp execOp
  rw [hop]
  simp only [hx, e, Sem.run_bind, run_storeF hv, Result.andThen, Sem.run_pure, Oper.upon_skip]
  rw [hd]
  exact hK _ VarFB.upd_put ⟨x1, c1, x2, c2, hv.put, h1.putF hv, h2.putF hv⟩
/-- A store that is left. -/
theorem wpAny_storeN (hr : Region.ready md ops listed = [j]) (ho : ops[j]? = some o) (hop : o.op = .store 24 x y) (hg : o.guard = none) (hd : o.dst = none)
    (hx : a.eval x = .pointer (some ⟨g, 0, none⟩)) (hy : IsN w (a.eval y) N) (hv : ∃ s L c, VarB w g s L c) (h : ∀ w1, Upd w g w1 → VarI w1 g N → wpAny Try.prog md ops Q fuel (listed.setIfInBounds j true) a w1) :
    wpAny Try.prog md ops Q (fuel + 1) listed a w := by
  refine wpAny_ready hr (by simp) (AllReady.cons ho (fun K hK => ?_) AllReady.nil)
  rw [if_pos (wanted_none hg)]
  exact wp_storeN hop hd hx hy hv (fun w1 u1 v1 => hK _ _ (h w1 u1 v1))
theorem wpAny_storeFr (hr : Region.ready md ops listed = [j]) (ho : ops[j]? = some o) (hop : o.op = .store 26 x y) (hg : o.guard = none) (hd : o.dst = none)
    (hx : a.eval x = .pointer (some ⟨g, 0, none⟩)) (hy : IsF w (a.eval y) t p q) (hv : ∃ s u L c v M d, VarFB w g s u L c v M d) (h : ∀ w1, Upd w g w1 → VarF w1 g t p q → wpAny Try.prog md ops Q fuel (listed.setIfInBounds j true) a w1) :
    wpAny Try.prog md ops Q (fuel + 1) listed a w := by
  refine wpAny_ready hr (by simp) (AllReady.cons ho (fun K hK => ?_) AllReady.nil)
  rw [if_pos (wanted_none hg)]
  exact wp_storeFr hop hd hx hy hv (fun w1 u1 v1 => hK _ _ (h w1 u1 v1))
theorem VarB.any (h : VarB w g u L c) : ∃ s L c, VarB w g s L c := ⟨_, _, _, h⟩
theorem VarI.any (h : VarI w g N) : ∃ s L c, VarB w g s L c := by obtain ⟨_, _, h, _⟩ := h; exact ⟨_, _, _, h⟩
theorem VarFB.any (h : VarFB w g s u L c v M d) : ∃ s u L c v M d, VarFB w g s u L c v M d := ⟨_, _, _, _, _, _, _, h⟩
theorem VarF.any (h : VarF w g s p q) : ∃ s u L c v M d, VarFB w g s u L c v M d := by obtain ⟨_, _, _, _, h, _⟩ := h; exact ⟨_, _, _, _, _, _, _, h⟩
end
def Sp.pair (A B : Sp) : Sp := ⟨fun w v => ∃ x y, v = .tuple #[x, y] ∧ A.p w x ∧ B.p w y, fun w w' _ h hb => by obtain ⟨x, y, rfl, h1, h2⟩ := h; exact ⟨x, y, rfl, A.st w w' _ h1 hb, B.st w w' _ h2 hb⟩⟩
def Sp.trip (A B C : Sp) : Sp := ⟨fun w v => ∃ x y z, v = .tuple #[x, y, z] ∧ A.p w x ∧ B.p w y ∧ C.p w z, fun w w' _ h hb => by obtain ⟨x, y, z, rfl, h1, h2, h3⟩ := h; exact ⟨x, y, z, rfl, A.st w w' _ h1 hb, B.st w w' _ h2 hb, C.st w w' _ h3 hb⟩⟩
section
variable {Q : Exit → Act → World → Prop} {md : Region.Mode} {ops : Array Oper} {o : Oper} {a : Act} {w : World} {j fuel : Nat} {listed : Array Bool} {x y : Operand} {g L c M d N p q : Nat} {s t : Bool} {u v : Option Addr}
section
variable {f : FuncId} {S S1 S2 S3 : Sp} {z : Operand} {tt : Array TypeId} {R : World → Ending → World → Prop}
theorem arm_C0 (ho : o.op = .call { callee := .value (.func f), args := #[], argTypes := tt }) (hen : ∀ (vs : Array Value) w, (callFunc f vs).run Try.prog w = .ok (.enter f vs) w)
    (hc : ∀ w, Calls Try.prog f #[] w (R w)) (hR : ∀ e w', R w e w' → ∃ v, e = .returned v ∧ S.p w' v ∧ Below w.heap.size w w') : Arm Try.prog Q o a w S :=
  arm_call ho hen (R := R w) (by simpa using hc w) hR
theorem arm_C1 (ho : o.op = .call { callee := .value (.func f), args := #[x], argTypes := tt }) (hen : ∀ (vs : Array Value) w, (callFunc f vs).run Try.prog w = .ok (.enter f vs) w)
    (hx : Is a w x S1) (hc : ∀ va w, S1.p w va → Calls Try.prog f #[va] w (R w)) (hR : ∀ e w', R w e w' → ∃ v, e = .returned v ∧ S.p w' v ∧ Below w.heap.size w w') : Arm Try.prog Q o a w S :=
  arm_call ho hen (R := R w) (by simpa using hc _ w hx) hR
theorem arm_C2 (ho : o.op = .call { callee := .value (.func f), args := #[x, y], argTypes := tt }) (hen : ∀ (vs : Array Value) w, (callFunc f vs).run Try.prog w = .ok (.enter f vs) w)
    (hx : Is a w x S1) (hy : Is a w y S2) (hc : ∀ va vb w, S1.p w va → S2.p w vb → Calls Try.prog f #[va, vb] w (R w)) (hR : ∀ e w', R w e w' → ∃ v, e = .returned v ∧ S.p w' v ∧ Below w.heap.size w w') : Arm Try.prog Q o a w S :=
  arm_call ho hen (R := R w) (by simpa using hc _ _ w hx hy) hR
theorem arm_C3 (ho : o.op = .call { callee := .value (.func f), args := #[x, y, z], argTypes := tt }) (hen : ∀ (vs : Array Value) w, (callFunc f vs).run Try.prog w = .ok (.enter f vs) w)
    (hx : Is a w x S1) (hy : Is a w y S2) (hz : Is a w z S3) (hc : ∀ va vb vc w, S1.p w va → S2.p w vb → S3.p w vc → Calls Try.prog f #[va, vb, vc] w (R w)) (hR : ∀ e w', R w e w' → ∃ v, e = .returned v ∧ S.p w' v ∧ Below w.heap.size w w') : Arm Try.prog Q o a w S :=
  arm_call ho hen (R := R w) (by simpa using hc _ _ _ w hx hy hz) hR
theorem arm_pair0 {A B : Sp} (ho : o.op = .extract x 0) (hx : Is a w x (.pair A B)) : Arm Try.prog Q o a w A := by
  obtain ⟨u, v, e, h1, _⟩ := hx
  exact arm_run u (run_ext ho e rfl w) h1
theorem arm_pair1 {A B : Sp} (ho : o.op = .extract x 1) (hx : Is a w x (.pair A B)) : Arm Try.prog Q o a w B := by
  obtain ⟨u, v, e, _, h1⟩ := hx
  exact arm_run v (run_ext ho e rfl w) h1
theorem arm_trip0 {A B C : Sp} (ho : o.op = .extract x 0) (hx : Is a w x (.trip A B C)) : Arm Try.prog Q o a w A := by
  obtain ⟨u, v, z, e, h1, _, _⟩ := hx
  exact arm_run u (run_ext ho e rfl w) h1
theorem arm_trip1 {A B C : Sp} (ho : o.op = .extract x 1) (hx : Is a w x (.trip A B C)) : Arm Try.prog Q o a w B := by
  obtain ⟨u, v, z, e, _, h1, _⟩ := hx
  exact arm_run v (run_ext ho e rfl w) h1
theorem arm_trip2 {A B C : Sp} (ho : o.op = .extract x 2) (hx : Is a w x (.trip A B C)) : Arm Try.prog Q o a w C := by
  obtain ⟨u, v, z, e, _, _, h1⟩ := hx
  exact arm_run z (run_ext ho e rfl w) h1
theorem ofDiv {w w' : World} {q r : Nat} {c : Int} {e : Ending} (h : RetDiv w q r c e w') : ∃ v, e = .returned v ∧ (Sp.trip (.nat q) (.nat r) (.val (.int .i64 c))).p w' v ∧ Below w.heap.size w w' := by
  obtain ⟨v, u, rfl, h1, h2, h3⟩ := h; exact ⟨_, rfl, ⟨_, _, _, rfl, h1.isN, h2.isN, rfl⟩, h3⟩
theorem ofP {w w' : World} {N : Nat} {c : Int} {e : Ending} (h : RetP w N c e w') : ∃ v, e = .returned v ∧ (Sp.pair (.nat N) (.val (.int .i64 c))).p w' v ∧ Below w.heap.size w w' := by
  obtain ⟨v, rfl, h1, h2⟩ := h; exact ⟨_, rfl, ⟨_, _, rfl, h1.isN, rfl⟩, h2⟩
theorem ofFEp {w w' : World} {p q : Nat} {c : Int} {e : Ending} (h : RetFE w s p q c e w') : ∃ v, e = .returned v ∧ (Sp.pair (.fr s p q) (.val (.int .i64 c))).p w' v ∧ Below w.heap.size w w' := by
  obtain ⟨v, rfl, h1, h2⟩ := h; exact ⟨_, rfl, ⟨_, _, rfl, h1, rfl⟩, h2⟩
end
theorem arm_build0F (ho : o.op = .build 26 #[]) : Arm Try.prog Q o a w (.fr false 0 0) := by
  refine arm_run (.agg #[.bool false, .slice none 0 0, .slice none 0 0]) ?_ (IsF.zero w)
  unfold execOp
  rw [ho]
  simp only [List.map_toArray, List.map_nil]
  go_simp
end
theorem res_N {fn : Func} {p : Tmp} (h : fn.results = #[.cell p 24]) {tmps : Array Value} {w : World} {g L c : Nat} {a : Option Addr}
    (hp : tmps[p]? = some (.pointer (some ⟨g, 0, none⟩))) (hv : VarB w g a L c) : (results fn tmps).run Try.prog w = .ok (.agg #[.slice a L c]) w := by
  have c0 := hv.cell
  simp [results, h, hp, asAddr, loadVar, go_sem, c0]
theorem run_eqBB (a b : Bool) (w : World) : (binOp BinOp.eql 4 (.bool a) (.bool b)).run Try.prog w = .ok (.bool (a == b)) w := by cases a <;> cases b <;> rfl
theorem resN {w : World} : Below w.heap.size w (w.alloc (.cells #[.slice none 0 0] 24)) ∧ VarB (w.alloc (.cells #[.slice none 0 0] 24)) w.heap.size none 0 0 := ⟨bel1 w _, VarB.made w none 0 0⟩
/-- A fraction: sign, numerator, denominator. -/
structure Fq where
  s : Bool
  p : Nat
  q : Nat
abbrev VarQ (w : World) (g : Nat) (x : Fq) : Prop := VarF w g x.s x.p x.q
abbrev IsQ (w : World) (v : Value) (x : Fq) : Prop := IsF w v x.s x.p x.q
abbrev Sp.fq (x : Fq) : Sp := .fr x.s x.p x.q
def RetQ (W : World) (x : Fq) (e : Ending) (w' : World) : Prop := RetF W x.s x.p x.q e w'
def RetQE (W : World) (x : Fq) (c : Int) (e : Ending) (w' : World) : Prop := RetFE W x.s x.p x.q c e w'
theorem ofQ {w w' : World} {x : Fq} {e : Ending} (h : RetQ w x e w') : ∃ v, e = .returned v ∧ (Sp.fq x).p w' v ∧ Below w.heap.size w w' := h
theorem ofQE {w w' : World} {x : Fq} {c : Int} {e : Ending} (h : RetQE w x c e w') : ∃ v, e = .returned v ∧ (Sp.pair (.fq x) (.val (.int .i64 c))).p w' v ∧ Below w.heap.size w w' := ofFEp h
def Fq.low (s : Bool) (m n : Nat) : Fq := ⟨lowS s m, lowP m n, lowQ m n⟩
def Fq.neg (x : Fq) : Fq := ⟨lowS (!x.s) x.p, x.p, x.q⟩
def Fq.add (x y : Fq) : Fq := .low (addG x.s y.s (x.p * y.q) (y.p * x.q)) (addM x.s y.s (x.p * y.q) (y.p * x.q)) (x.q * y.q)
def Fq.sub (x y : Fq) : Fq := x.add y.neg
def Fq.zero : Fq := ⟨false, 0, 0⟩
/-- At most d digits; the denominator is not zero. -/
structure Fq.ok (d : Nat) (x : Fq) : Prop where
  p : nl x.p ≤ d
  q : nl x.q ≤ d
  n : x.q ≠ 0
section
variable {x y : Fq} {d e : Nat}
theorem Fq.ok.mono (h : x.ok d) (hd : d ≤ e) : x.ok e := ⟨Nat.le_trans h.p hd, Nat.le_trans h.q hd, h.n⟩
theorem Fq.ok_low {s : Bool} {m n : Nat} (hm : nl m ≤ d) (hn : nl n ≤ d) (h0 : n ≠ 0) : (Fq.low s m n).ok d :=
  ⟨Nat.le_trans (nl_mono (Nat.div_le_self _ _)) hm, Nat.le_trans (nl_mono (Nat.div_le_self _ _)) hn, fun h => by
    have h1 : n / Nat.gcd m n = 0 := h
    rw [Nat.div_eq_zero_iff] at h1
    have h2 := Nat.gcd_pos_of_pos_right m (Nat.pos_of_ne_zero h0)
    have h3 := Nat.gcd_le_right m (Nat.pos_of_ne_zero h0)
    omega⟩
theorem Fq.ok.neg (h : x.ok d) : x.neg.ok d := ⟨h.p, h.q, h.n⟩
theorem Fq.ok.add (h : x.ok d) (k : y.ok e) : (x.add y).ok (d + e + (d + e) + 1) :=
  Fq.ok_low (Nat.le_trans (nl_mono (addM_le _ _ _ _)) (nl_add2 (nl_mul2 h.p k.q) (Nat.le_trans (nl_mul2 k.p h.q) (by omega)))) (Nat.le_trans (nl_mul2 h.q k.q) (by omega)) (Nat.mul_ne_zero h.n k.n)
theorem Fq.ok.sub (h : x.ok d) (k : y.ok e) : (x.sub y).ok (d + e + (d + e) + 1) := h.add k.neg
end
theorem q_fNeg (va : Value) (x : Fq) (w : World) (ha : IsQ w va x) (h : x.ok 1000000000) : Calls Try.prog 39 #[va] w fun e w' => RetQ w x.neg e w' := c_fNeg va x.s x.p x.q w ha h.p h.q
theorem q_fAdd (va vb : Value) (x y : Fq) (w : World) (ha : IsQ w va x) (hb : IsQ w vb y) (h : x.ok 1000000000) (k : y.ok 1000000000) : Calls Try.prog 37 #[va, vb] w fun e w' => RetQ w (x.add y) e w' := c_fAdd va vb x.s y.s x.p x.q y.p y.q w ha hb h.p h.q k.p k.q h.n k.n
theorem q_Make (s : Bool) (va vb : Value) (m n : Nat) (w : World) (ha : IsN w va m) (hb : IsN w vb n) (hm : nl m ≤ 10000000000) (hn : nl n ≤ 10000000000) (h0 : n ≠ 0) : Calls Try.prog 25 #[.bool s, va, vb] w fun e w' => RetQE w (Fq.low s m n) 0 e w' := (c_Make s va vb m n w ha hb hm hn).mono fun _ _ h => h.2 h0
theorem q_Make0 (s : Bool) (va vb : Value) (m n : Nat) (w : World) (ha : IsN w va m) (hb : IsN w vb n) (hm : nl m ≤ 10000000000) (hn : nl n ≤ 10000000000) (h0 : n = 0) : Calls Try.prog 25 #[.bool s, va, vb] w fun e w' => RetQE w Fq.zero 8 e w' := (c_Make s va vb m n w ha hb hm hn).mono fun _ _ h => h.1 h0
end Go.Proofs.Ytldnimohnbjfaaa
namespace Go.Proofs.Ytldnimohnbjfaaa
set_option linter.unusedSimpArgs false
set_option linter.unusedVariables false
set_option maxRecDepth 100000
open Go.RowKit
theorem wrap_mag (v : Int) (h1 : -9223372036854775808 ≤ v) (hv : v < 0) : IntKind.u64.wrap (-IntKind.u64.wrap v) = ((v.natAbs : Nat) : Int) := by
  simp only [IntKind.wrap, IntKind.signed, IntKind.bits, Bool.false_and, Bool.false_eq_true, if_false]
  omega
theorem c_mag (v : Int) (w : World) (h1 : -9223372036854775808 ≤ v) (h2 : v < 9223372036854775808) :
    Calls Try.prog 63 #[.int .i64 v] w fun e w' => RetN w v.natAbs e w' := by
  obtain ⟨m0, k0⟩ := resN (w := w)
  have c0 := k0.cell
  have f0 := k0.frozen
  have fin : ∀ e w9, RetNew (w.alloc (.cells #[.slice none 0 0] 24)) v.natAbs e w9 → ∃ a c, e = .returned (.agg #[.slice a (nl v.natAbs) c]) ∧ IsN w9 (.agg #[.slice a (nl v.natAbs) c]) v.natAbs ∧ VarB w9 w.heap.size none 0 0 ∧ Below w.heap.size w w9 := by
    rintro e w9 ⟨x, rfl, nx, hb⟩
    have nx := nx.isN
    obtain ⟨a, c, rfl⟩ := nx.shape
    exact ⟨a, c, rfl, nx, k0.mono hb k0.lt, m0.trans (hb.mono m0.size)⟩
  go_enter Try.func63, Try.ntmps63
  by_cases hv : v < 0
  · have e0 := wrap_mag v h1 hv
    have E0 := Lib.hid e0
    clear e0
    go_wp2_with fail
    rw [E0.out]
    refine (c_natural_Of v.natAbs _ (by omega)).mono ?_
    rintro e w9 h9
    obtain ⟨a, c, rfl, nx, k9, hb⟩ := fin e w9 h9
    have c9 := k9.cell
    have f9 := k9.frozen
    clear c0 f0 fin h9
    go_wp2
    exact bodyPost_ret (res_N rfl rfl k9.set) rfl ⟨_, rfl, nx.setVar k9, hb.setCell (p := ⟨w.heap.size, 0, none⟩) (Nat.le_refl _) _⟩
  · obtain ⟨n, hn⟩ : ∃ n : Nat, Hid (v = (n : Int)) := ⟨v.natAbs, Lib.hid (by omega)⟩
    have hnn : Hid (v.natAbs = n) := Lib.hid (by have := hn.out; omega)
    go_wp2_with fail
    rw [show v = ((v.natAbs : Nat) : Int) from by omega]
    refine (c_natural_Of v.natAbs _ (by omega)).mono ?_
    rintro e w9 h9
    obtain ⟨a, c, rfl, nx, k9, hb⟩ := fin e w9 h9
    have c9 := k9.cell
    have f9 := k9.frozen
    clear c0 f0 fin h9
    go_wp2
    exact bodyPost_ret (res_N rfl rfl k9.set) rfl ⟨_, rfl, nx.setVar k9, hb.setCell (p := ⟨w.heap.size, 0, none⟩) (Nat.le_refl _) _⟩
end Go.Proofs.Ytldnimohnbjfaaa
namespace Go.Proofs.Ytldnimohnbjfaaa
set_option linter.unusedSimpArgs false
set_option linter.unusedVariables false
set_option maxRecDepth 100000
open Go.RowKit
/-- Block g is a variable of type signed. -/
def VarS (w : World) (g : Nat) (a b : Bool) : Prop := w.heap[g]? = some (.cells #[.bool a, .bool b] 52 (0, 0))
theorem VarS.lt {w : World} {g : Nat} {a b : Bool} (h : VarS w g a b) : g < w.heap.size := (Array.getElem?_eq_some_iff.1 h).1
theorem VarS.mono {w w' : World} {g B : Nat} {a b : Bool} (h : VarS w g a b) (hb : Below B w w') (hB : g < B) : VarS w' g a b := (hb.block g hB).trans h
theorem VarS.cell0 {w : World} {g : Nat} {a b : Bool} (h : VarS w g a b) : w.cell? ⟨g, 0, none⟩ = some (.bool a) := by rw [cell_of_row w g 0 _ _ (0, 0) h]; rfl
theorem VarS.cell1 {w : World} {g : Nat} {a b : Bool} (h : VarS w g a b) : w.cell? ⟨g, 1, none⟩ = some (.bool b) := by rw [cell_of_row w g 1 _ _ (0, 0) h]; rfl
theorem VarS.own {w : World} {g : Nat} {a b : Bool} (h : VarS w g a b) : Own w g := ⟨_, _, h, fun k n => by
  match k with
  | 0 => intro h; cases h
  | 1 => intro h; cases h
  | k + 2 => intro h; simp at h⟩
theorem VarS.upd {w w' : World} {g g' : Nat} {a b : Bool} (h : VarS w g' a b) (_ : Own w g) (u : Upd w g w') (hn : g' ≠ g) : VarS w' g' a b := (u.block g' hn).trans h
theorem resS {w : World} : Below w.heap.size w (w.alloc (.cells #[.bool false, .bool false] 52)) ∧ VarS (w.alloc (.cells #[.bool false, .bool false] 52)) w.heap.size false false := ⟨bel1 w _, heap_alloc_new w _⟩
theorem VarS.any {w : World} {g : Nat} {a b : Bool} (h : VarS w g a b) : ∃ a b, VarS w g a b := ⟨_, _, h⟩
theorem run_storeS {w : World} {g : Nat} {a b a' b' : Bool} (h : VarS w g a b) : (Instr.storeAt 52 (.pointer (some ⟨g, 0, none⟩)) (.agg #[.bool a', .bool b'])).run Try.prog w = .ok () ((w.setCell ⟨g, 0, none⟩ (.bool a')).setCell ⟨g, 1, none⟩ (.bool b')) := by
  have c0 := h.cell0
  have c1 := h.cell1
  have f0 : w.frozen? ⟨g, 0, none⟩ = false := frozen_of_row w g 0 _ _ h
  have f1 : w.frozen? ⟨g, 1, none⟩ = false := frozen_of_row w g 1 _ _ h
  go_simp
section
variable {Q : Exit → Act → World → Prop} {md : Region.Mode} {ops : Array Oper} {o : Oper} {a : Act} {w : World} {j fuel : Nat} {listed : Array Bool} {x y : Operand} {g : Nat} {s t : Bool}
theorem wp_storeS {K : Act → World → Prop} (hop : o.op = .store 52 x y) (hd : o.dst = none) (hx : a.eval x = .pointer (some ⟨g, 0, none⟩)) (hy : a.eval y = .agg #[.bool s, .bool t]) (hv : ∃ s t, VarS w g s t)
    (hK : ∀ w1, Upd w g w1 → VarS w1 g s t → K a w1) : Oper.wp Try.prog o a w K Q := by
  obtain ⟨s', t', hv⟩ := hv
  unfold Oper.wp execOp
  rw [hop]
  simp only [hx, hy, Sem.run_bind, run_storeS hv, Result.andThen, Sem.run_pure, Oper.upon_skip]
  rw [hd]
  exact hK _ ((Upd.cell w g 0 _).trans (Upd.cell _ g 1 _)) (heap_setCell_same _ g 1 _ _ (.bool t) (heap_setCell_same w g 0 _ _ (.bool s) hv))
theorem wpAny_storeS (hr : Region.ready md ops listed = [j]) (ho : ops[j]? = some o) (hop : o.op = .store 52 x y) (hg : o.guard = none) (hd : o.dst = none)
    (hx : a.eval x = .pointer (some ⟨g, 0, none⟩)) (hy : a.eval y = .agg #[.bool s, .bool t]) (hv : ∃ s t, VarS w g s t) (h : ∀ w1, Upd w g w1 → VarS w1 g s t → wpAny Try.prog md ops Q fuel (listed.setIfInBounds j true) a w1) :
    wpAny Try.prog md ops Q (fuel + 1) listed a w := by
  refine wpAny_ready hr (by simp) (AllReady.cons ho (fun K hK => ?_) AllReady.nil)
  rw [if_pos (wanted_none hg)]
  exact wp_storeS hop hd hx hy hv (fun w1 u1 v1 => hK _ _ (h w1 u1 v1))
theorem arm_buildS2 (ho : o.op = .build 52 #[(0, x), (1, y)]) (hx : Is a w x (.val (.bool s))) (hy : Is a w y (.val (.bool t))) : Arm Try.prog Q o a w (.val (.agg #[.bool s, .bool t])) := by
  have hx' : a.eval x = .bool s := hx
  have hy' : a.eval y = .bool t := hy
  refine arm_run _ ?_ rfl
  unfold execOp
  rw [ho]
  simp only [List.map_toArray, List.map_cons, List.map_nil, hx', hy']
  go_simp
end
theorem res_S {fn : Func} {p : Tmp} (h : fn.results = #[.cell p 52]) {tmps : Array Value} {w : World} {g : Nat} {s t : Bool}
    (hp : tmps[p]? = some (.pointer (some ⟨g, 0, none⟩))) (hv : VarS w g s t) : (results fn tmps).run Try.prog w = .ok (.agg #[.bool s, .bool t]) w := by
  have c0 := hv.cell0
  have c1 := hv.cell1
  simp [results, h, hp, asAddr, loadVar, go_sem, c0, c1]
theorem run_neSS (a b c d : Bool) (w : World) : (binOp BinOp.neq 52 (.agg #[.bool a, .bool b]) (.agg #[.bool c, .bool d])).run Try.prog w = .ok (.bool (!(a == c && b == d))) w := by
  cases a <;> cases b <;> cases c <;> cases d <;> go_simp
theorem guard_neSS {x y : Operand} (a b c d : Bool) (w : World) : (eqGuard BinOp.neq 52 x y (.agg #[.bool a, .bool b]) (.agg #[.bool c, .bool d])).run Try.prog w = .ok () w := by go_simp
def markT0 (w : World) (x : Fq) (z : Bool) : List (Nat × Tmp × Sp) :=
   [(0, 3, .val (Value.pointer (some ⟨w.heap.size, 0, none⟩))),
    (1, 4, .val (Value.bool x.s)),
    (2, 5, .val (Value.pointer (some ⟨w.heap.size, 1, none⟩))),
    (3, 6, .nat (x.p)),
    (4, 7, .val (Value.bool z)),
    (5, 8, .val (Value.agg #[Value.bool x.s, Value.bool z]))]
set_option maxHeartbeats 4000000 in
theorem c_mark (va : Value) (x : Fq) (w : World) (ha : IsQ w va x) (hp : nl x.p ≤ 1000000000000) {z : Bool} (hz : decide (x.p = 0) = z) :
    Calls Try.prog 48 #[va] w fun e w' => RetV w (.agg #[.bool x.s, .bool z]) e w' := by
  have HZ := Lib.hid hz
  clear hz
  obtain ⟨a0, c0, b0, d0, rfl, m0, k0⟩ := boxF ha
  obtain ⟨m1, k1⟩ := resS (w := (w.alloc (.cells #[.bool x.s, .slice a0 (nl x.p) c0, .slice b0 (nl x.q) d0] 26)))
  rw [World.size_alloc ] at k1
  have n1 := m0.trans (m1.mono m0.size)
  clear ha
  go_enter Try.func48, Try.ntmps48
  go_upto_region 0 with (fail)
  go_cut [1, 2] (fun s_1 s_2 wx => s_1 = Value.pointer (some ⟨w.heap.size, 0, none⟩) ∧ s_2 = Value.pointer (some ⟨w.heap.size + 1, 0, none⟩) ∧ VarQ wx w.heap.size x ∧ VarS wx (w.heap.size + 1) false false ∧ Below w.heap.size w wx)
  case first =>
    go_wp2_with fail
    go_meet
    case rel => exact ⟨rfl, rfl, (k0.mono m1), k1, n1⟩
  case rest =>
  clear m0 k0 m1 k1 n1
  obtain ⟨rfl, rfl, V0, V1, hb1⟩ := hcut
  go_upto_region 1 with (fail)
  go_cut [] (fun wx => VarQ wx w.heap.size x ∧ VarS wx (w.heap.size + 1) x.s z ∧ Below w.heap.size w wx)
  case first =>
    refine tG Try.f48 1 (markT0 w x z) [] 5 1 ?_ ?_
    · refine ⟨fun _ _ F => gR rfl rfl (arm_fieldF rfl (F.k 1 (Value.pointer (some ⟨w.heap.size, 0, none⟩))) (run_field0 _)).b, ?_⟩
      refine ⟨fun _ _ F => gR rfl rfl (arm_loadS rfl (F.f 0 rfl) (V0.mono F.below)).b, ?_⟩
      refine ⟨fun _ _ F => gR rfl rfl (arm_fieldF rfl (F.k 1 (Value.pointer (some ⟨w.heap.size, 0, none⟩))) (run_field1 _)).b, ?_⟩
      refine ⟨fun _ _ F => gR rfl rfl (arm_load1 rfl (F.f 2 rfl) (V0.mono F.below)).b, ?_⟩
      refine ⟨fun _ _ F => gR rfl rfl (arm_C1 rfl (enters Try.func47 rfl rfl) (F.f 3 rfl) (fun va w h1 => c_isZero va x.p w h1 hp) (fun _ _ h => by have h' : RetV _ _ _ _ := h; rw [HZ.out] at h'; exact ofV h')).b, ?_⟩
      refine ⟨fun _ _ F => gR rfl rfl (arm_buildS2 rfl (F.f 1 rfl) (F.f 4 rfl)).b, ?_⟩
      exact trivial
    intro E' hE gp wp bp G Gs
    obtain rfl : E' = [] := by simpa [subs] using hE
    have e_5 : gp 5 = Value.agg #[Value.bool x.s, Value.bool z] := G 5 8 _ (by simp) rfl
    clear G Gs hE
    simp only [markT0]
    simp only [qA, setD, qZ, qS, e_5]
    have T0 := (V1.mono bp V1.lt)
    refine wpAny_storeS (j := 6) (by kernel_rfl) rfl rfl rfl rfl rfl rfl T0.any ?_
    intro w0 u0 v0
    have O0 := T0.own
    refine wpAny_done (by kernel_rfl) ?_ _
    go_wp2_with fail
    go_meet
    case rel => exact ⟨((V0.mono bp).upd O0 u0 (by omega)), v0, (Upd.below (hb1.trans (bp.mono hb1.size)) u0 (by omega))⟩
  case rest =>
  clear V0 V1 hb1
  obtain ⟨V0, V1, hb1⟩ := hcut
  have rV := V1
  have c0 := rV.cell0
  have c1 := rV.cell1
  go_wp2
  exact bodyPost_ret (res_S rfl rfl rV) rfl ⟨rfl, hb1⟩
end Go.Proofs.Ytldnimohnbjfaaa
namespace Go.Proofs.Ytldnimohnbjfaaa
set_option linter.unusedSimpArgs false
set_option linter.unusedVariables false
set_option maxRecDepth 100000
open Go.RowKit
/-- The fraction of an integer; of two. -/
def Fq.ofInt (v : Int) : Fq := ⟨decide (v < 0), v.natAbs, 1⟩
def Fq.ratio (v u : Int) : Fq := .low (decide (v < 0) != decide (u < 0)) v.natAbs u.natAbs
theorem nl_abs {v : Int} (lv : -9223372036854775808 ≤ v) (rv : v < 9223372036854775808) : nl v.natAbs ≤ 2 := nl_le_iff.2 (by show v.natAbs < 18446744073709551616; omega)
def fRatioT0 (v : Int) (u : Int) : List (Nat × Tmp × Sp) :=
   [(0, 6, .val (Value.int IntKind.i64 v)),
    (1, 7, .val (Value.bool (decide (v < 0)))),
    (2, 8, .val (Value.int IntKind.i64 u)),
    (3, 9, .val (Value.bool (decide (u < 0)))),
    (4, 10, .val (Value.bool ((decide (v < 0)) != (decide (u < 0))))),
    (5, 11, .val (Value.int IntKind.i64 v)),
    (6, 12, .nat (v.natAbs)),
    (7, 13, .val (Value.int IntKind.i64 u)),
    (8, 14, .nat (u.natAbs)),
    (9, 15, .pair (.fq (Fq.low ((decide (v < 0)) != (decide (u < 0))) v.natAbs u.natAbs)) (.val (Value.int IntKind.i64 0))),
    (10, 16, .fq (Fq.low ((decide (v < 0)) != (decide (u < 0))) v.natAbs u.natAbs)),
    (11, 17, .val (Value.int IntKind.i64 0))]
set_option maxHeartbeats 4000000 in
theorem q_fRatio (v u : Int) (w : World) (lv : -9223372036854775808 ≤ v) (rv : v < 9223372036854775808) (lu : -9223372036854775808 ≤ u) (ru : u < 9223372036854775808) (h0 : u ≠ 0) :
    Calls Try.prog 20 #[.int .i64 v, .int .i64 u] w fun e w' => RetQE w (Fq.ratio v u) 0 e w' := by
  have bv : nl v.natAbs ≤ 10000000000 := Nat.le_trans (nl_abs lv rv) (by decide)
  have bu : nl u.natAbs ≤ 10000000000 := Nat.le_trans (nl_abs lu ru) (by decide)
  have HU : Hid (u.natAbs ≠ 0) := Lib.hid (by omega)
  clear h0
  obtain ⟨m0, k0⟩ := resF (w := w)
  go_enter Try.func20, Try.ntmps20
  go_upto_region 0 with (fail)
  go_cut [4, 5] (fun s_4 s_5 wx => s_4 = Value.pointer (some ⟨w.heap.size, 0, none⟩) ∧ s_5 = Value.int IntKind.i64 0 ∧ VarFB wx w.heap.size false none 0 0 none 0 0 ∧ Below w.heap.size w wx)
  case first =>
    go_wp2_with fail
    go_meet
    case rel => exact ⟨rfl, rfl, k0, m0⟩
  case rest =>
  clear m0 k0
  obtain ⟨rfl, rfl, V0, hb1⟩ := hcut
  go_upto_region 1 with (fail)
  go_cut [5] (fun s_5 wx => s_5 = Value.int IntKind.i64 0 ∧ VarQ wx w.heap.size (Fq.low ((decide (v < 0)) != (decide (u < 0))) v.natAbs u.natAbs) ∧ Below w.heap.size w wx)
  case first =>
    refine tF Try.f20 1 (fRatioT0 v u) [] 7 2 ?_ ?_
    · refine ⟨fun _ _ F => gR rfl rfl (arm_move (.inl rfl) (F.k 0 (Value.int IntKind.i64 v))).b, ?_⟩
      refine ⟨fun _ _ F => gR rfl rfl (arm_bin rfl (F.f 0 rfl) Is.const (fun _ => rfl) (fun w => rfl)).b, ?_⟩
      refine ⟨fun _ _ F => gR rfl rfl (arm_move (.inl rfl) (F.k 1 (Value.int IntKind.i64 u))).b, ?_⟩
      refine ⟨fun _ _ F => gR rfl rfl (arm_bin rfl (F.f 2 rfl) Is.const (fun _ => rfl) (fun w => rfl)).b, ?_⟩
      refine ⟨fun _ _ F => gR rfl rfl (arm_bin rfl (F.f 1 rfl) (F.f 3 rfl) (fun _ => rfl) (fun w => run_neB _ _ w)).b, ?_⟩
      refine ⟨fun _ _ F => gR rfl rfl (arm_move (.inl rfl) (F.k 0 (Value.int IntKind.i64 v))).b, ?_⟩
      refine ⟨fun _ _ F => gR rfl rfl (arm_C1 rfl (enters Try.func63 rfl rfl) (F.f 5 rfl) (fun va w h1 => by have e_va : va = _ := h1; subst e_va; exact c_mag v w lv rv) (fun _ _ h => ofN h)).b, ?_⟩
      refine ⟨fun _ _ F => gR rfl rfl (arm_move (.inl rfl) (F.k 1 (Value.int IntKind.i64 u))).b, ?_⟩
      refine ⟨fun _ _ F => gR rfl rfl (arm_C1 rfl (enters Try.func63 rfl rfl) (F.f 7 rfl) (fun va w h1 => by have e_va : va = _ := h1; subst e_va; exact c_mag u w lu ru) (fun _ _ h => ofN h)).b, ?_⟩
      refine ⟨fun _ _ F => gR rfl rfl (arm_C3 rfl (enters Try.func25 rfl rfl) (F.f 4 rfl) (F.f 6 rfl) (F.f 8 rfl) (fun va vb vc w h1 h2 h3 => by have e_va : va = _ := h1; subst e_va; exact q_Make ((decide (v < 0)) != (decide (u < 0))) vb vc v.natAbs u.natAbs w h2 h3 bv bu HU.out) (fun _ _ h => ofQE h)).b, ?_⟩
      refine ⟨fun _ _ F => gR rfl rfl (arm_pair0 rfl (F.f 9 rfl)).b, ?_⟩
      refine ⟨fun _ _ F => gR rfl rfl (arm_pair1 rfl (F.f 9 rfl)).b, ?_⟩
      exact trivial
    intro E' hE gp wp bp G Gs
    obtain rfl : E' = [] := by simpa [subs] using hE
    have n_10 : (Sp.fq (Fq.low ((decide (v < 0)) != (decide (u < 0))) v.natAbs u.natAbs)).p wp (gp 10) := G 10 16 _ (by simp) rfl
    have e_11 : gp 11 = Value.int IntKind.i64 0 := G 11 17 _ (by simp) rfl
    clear G Gs hE
    simp only [fRatioT0]
    simp only [qA, setD, qZ, qS, e_11]
    have T0 := (V0.mono bp V0.lt)
    refine wpAny_storeFr (j := 12) (by kernel_rfl) rfl rfl rfl rfl rfl n_10 T0.any ?_
    intro w0 u0 v0
    have O0 := T0.own
    refine wpAny_takeD (i := 13) (d := some 5) (v := Value.int IntKind.i64 0) rfl rfl (by kernel_rfl) (by kernel_rfl) (by kernel_rfl) (fun _ _ _ h => h) (Or.inl ⟨by rfl, fun w => by rfl⟩) ?_
    try simp only [qP, qZ, qS]
    refine wpAny_done (by kernel_rfl) ?_ _
    go_wp2_with fail
    go_meet
    case rel => exact ⟨rfl, v0, (Upd.below (hb1.trans (bp.mono hb1.size)) u0 (by omega))⟩
  case rest =>
  clear V0 hb1
  obtain ⟨rfl, V0, hb1⟩ := hcut
  obtain ⟨r1, r2, r3, r4, rV, rn, rm⟩ := V0
  have c0 := rV.cell0
  have c1 := rV.cell1
  have c2 := rV.cell2
  go_wp2
  exact bodyPost_ret (res_FE rfl rfl rfl rV) rfl ⟨_, rfl, ⟨r1, r2, r3, r4, rfl, rn, rm⟩, hb1⟩
def fRatio0T0 (v : Int) (u : Int) : List (Nat × Tmp × Sp) :=
   [(0, 6, .val (Value.int IntKind.i64 v)),
    (1, 7, .val (Value.bool (decide (v < 0)))),
    (2, 8, .val (Value.int IntKind.i64 u)),
    (3, 9, .val (Value.bool (decide (u < 0)))),
    (4, 10, .val (Value.bool ((decide (v < 0)) != (decide (u < 0))))),
    (5, 11, .val (Value.int IntKind.i64 v)),
    (6, 12, .nat (v.natAbs)),
    (7, 13, .val (Value.int IntKind.i64 u)),
    (8, 14, .nat (u.natAbs)),
    (9, 15, .pair (.fq Fq.zero) (.val (Value.int IntKind.i64 8))),
    (10, 16, .fq Fq.zero),
    (11, 17, .val (Value.int IntKind.i64 8))]
set_option maxHeartbeats 4000000 in
theorem q_fRatio0 (v u : Int) (w : World) (lv : -9223372036854775808 ≤ v) (rv : v < 9223372036854775808) (lu : -9223372036854775808 ≤ u) (ru : u < 9223372036854775808) (h0 : u = 0) :
    Calls Try.prog 20 #[.int .i64 v, .int .i64 u] w fun e w' => RetQE w Fq.zero 8 e w' := by
  have bv : nl v.natAbs ≤ 10000000000 := Nat.le_trans (nl_abs lv rv) (by decide)
  have bu : nl u.natAbs ≤ 10000000000 := Nat.le_trans (nl_abs lu ru) (by decide)
  have HU : Hid (u.natAbs = 0) := Lib.hid (by omega)
  clear h0
  obtain ⟨m0, k0⟩ := resF (w := w)
  go_enter Try.func20, Try.ntmps20
  go_upto_region 0 with (fail)
  go_cut [4, 5] (fun s_4 s_5 wx => s_4 = Value.pointer (some ⟨w.heap.size, 0, none⟩) ∧ s_5 = Value.int IntKind.i64 0 ∧ VarFB wx w.heap.size false none 0 0 none 0 0 ∧ Below w.heap.size w wx)
  case first =>
    go_wp2_with fail
    go_meet
    case rel => exact ⟨rfl, rfl, k0, m0⟩
  case rest =>
  clear m0 k0
  obtain ⟨rfl, rfl, V0, hb1⟩ := hcut
  go_upto_region 1 with (fail)
  go_cut [5] (fun s_5 wx => s_5 = Value.int IntKind.i64 8 ∧ VarQ wx w.heap.size Fq.zero ∧ Below w.heap.size w wx)
  case first =>
    refine tF Try.f20 1 (fRatio0T0 v u) [] 7 2 ?_ ?_
    · refine ⟨fun _ _ F => gR rfl rfl (arm_move (.inl rfl) (F.k 0 (Value.int IntKind.i64 v))).b, ?_⟩
      refine ⟨fun _ _ F => gR rfl rfl (arm_bin rfl (F.f 0 rfl) Is.const (fun _ => rfl) (fun w => rfl)).b, ?_⟩
      refine ⟨fun _ _ F => gR rfl rfl (arm_move (.inl rfl) (F.k 1 (Value.int IntKind.i64 u))).b, ?_⟩
      refine ⟨fun _ _ F => gR rfl rfl (arm_bin rfl (F.f 2 rfl) Is.const (fun _ => rfl) (fun w => rfl)).b, ?_⟩
      refine ⟨fun _ _ F => gR rfl rfl (arm_bin rfl (F.f 1 rfl) (F.f 3 rfl) (fun _ => rfl) (fun w => run_neB _ _ w)).b, ?_⟩
      refine ⟨fun _ _ F => gR rfl rfl (arm_move (.inl rfl) (F.k 0 (Value.int IntKind.i64 v))).b, ?_⟩
      refine ⟨fun _ _ F => gR rfl rfl (arm_C1 rfl (enters Try.func63 rfl rfl) (F.f 5 rfl) (fun va w h1 => by have e_va : va = _ := h1; subst e_va; exact c_mag v w lv rv) (fun _ _ h => ofN h)).b, ?_⟩
      refine ⟨fun _ _ F => gR rfl rfl (arm_move (.inl rfl) (F.k 1 (Value.int IntKind.i64 u))).b, ?_⟩
      refine ⟨fun _ _ F => gR rfl rfl (arm_C1 rfl (enters Try.func63 rfl rfl) (F.f 7 rfl) (fun va w h1 => by have e_va : va = _ := h1; subst e_va; exact c_mag u w lu ru) (fun _ _ h => ofN h)).b, ?_⟩
      refine ⟨fun _ _ F => gR rfl rfl (arm_C3 rfl (enters Try.func25 rfl rfl) (F.f 4 rfl) (F.f 6 rfl) (F.f 8 rfl) (fun va vb vc w h1 h2 h3 => by have e_va : va = _ := h1; subst e_va; exact q_Make0 ((decide (v < 0)) != (decide (u < 0))) vb vc v.natAbs u.natAbs w h2 h3 bv bu HU.out) (fun _ _ h => ofQE h)).b, ?_⟩
      refine ⟨fun _ _ F => gR rfl rfl (arm_pair0 rfl (F.f 9 rfl)).b, ?_⟩
      refine ⟨fun _ _ F => gR rfl rfl (arm_pair1 rfl (F.f 9 rfl)).b, ?_⟩
      exact trivial
    intro E' hE gp wp bp G Gs
    obtain rfl : E' = [] := by simpa [subs] using hE
    have n_10 : (Sp.fq Fq.zero).p wp (gp 10) := G 10 16 _ (by simp) rfl
    have e_11 : gp 11 = Value.int IntKind.i64 8 := G 11 17 _ (by simp) rfl
    clear G Gs hE
    simp only [fRatio0T0]
    simp only [qA, setD, qZ, qS, e_11]
    have T0 := (V0.mono bp V0.lt)
    refine wpAny_storeFr (j := 12) (by kernel_rfl) rfl rfl rfl rfl rfl n_10 T0.any ?_
    intro w0 u0 v0
    have O0 := T0.own
    refine wpAny_takeD (i := 13) (d := some 5) (v := Value.int IntKind.i64 8) rfl rfl (by kernel_rfl) (by kernel_rfl) (by kernel_rfl) (fun _ _ _ h => h) (Or.inl ⟨by rfl, fun w => by rfl⟩) ?_
    try simp only [qP, qZ, qS]
    refine wpAny_done (by kernel_rfl) ?_ _
    go_wp2_with fail
    go_meet
    case rel => exact ⟨rfl, v0, (Upd.below (hb1.trans (bp.mono hb1.size)) u0 (by omega))⟩
  case rest =>
  clear V0 hb1
  obtain ⟨rfl, V0, hb1⟩ := hcut
  obtain ⟨r1, r2, r3, r4, rV, rn, rm⟩ := V0
  have c0 := rV.cell0
  have c1 := rV.cell1
  have c2 := rV.cell2
  go_wp2
  exact bodyPost_ret (res_FE rfl rfl rfl rV) rfl ⟨_, rfl, ⟨r1, r2, r3, r4, rfl, rn, rm⟩, hb1⟩
end Go.Proofs.Ytldnimohnbjfaaa
namespace Go.Proofs.Ytldnimohnbjfaaa
set_option linter.unusedSimpArgs false
set_option linter.unusedVariables false
set_option maxRecDepth 100000
open Go.RowKit
section
variable {Q : Exit → Act → World → Prop} {o : Oper} {a : Act} {w : World} {x y : Operand} {g m : Nat} {tt : Array TypeId}
theorem arm_index0 (ho : o.op = .indexAddr 79 x y) (hx : Is a w x (.val (.slice (some ⟨g, 0, none⟩) 1 1))) (hy : Is a w y (.val (.int .i64 0))) : Arm Try.prog Q o a w (.val (.pointer (some ⟨g, 0, none⟩))) := by
  have hx' : a.eval x = .slice (some ⟨g, 0, none⟩) 1 1 := hx
  have hy' : a.eval y = .int .i64 0 := hy
  refine arm_run _ ?_ rfl
  unfold execOp
  rw [ho]
  simp only [hx', hy']
  go_simp
end
def oneT0 (g : Nat) (m : Nat) (base : Nat) : List (Nat × Tmp × Sp) :=
   [(0, 9, .val (Value.pointer (some ⟨g, 0, none⟩))),
    (1, 10, .nat (m)),
    (2, 4, .var base)]
def oneT1 (m : Nat) : List (Nat × Tmp × Sp) :=
   [(0, 11, .nat (m)),
    (1, 12, .nat (1)),
    (2, 13, .val (Value.int IntKind.i64 0)),
    (3, 14, .val (Value.bool false))]
def oneT2 (m : Nat) (C : Int) : List (Nat × Tmp × Sp) :=
   [(0, 11, .nat (m)),
    (1, 12, .nat (1)),
    (2, 13, .val (Value.int IntKind.i64 C)),
    (3, 14, .val (Value.bool true))]
set_option maxHeartbeats 4000000 in
theorem c_one (g m : Nat) (w : World) (v : VarI w g m) (hm : nl m ≤ 1000000000000) :
    Calls Try.prog 49 #[.slice (some ⟨g, 0, none⟩) 1 1] w fun e w' => RetV w (.bool (decide (m = 1))) e w' := by
  have hb1 := Below.refl w.heap.size w
  go_enter Try.func49, Try.ntmps49
  go_wp2
  go_loopw [7] (fun s7 wr => (s7 = .int .i64 0 ∨ (s7 = .int .i64 1 ∧ Hid (m = 1))) ∧ VarI wr g m ∧ Below w.heap.size w wr) (fun s7 _ => 1 - (intOf s7).toNat)
  case atStart => exact ⟨.inl rfl, v, hb1⟩
  case round =>
    obtain ⟨hk, V, hb1⟩ := hrel
    rcases hk with rfl | ⟨rfl, HM⟩
    · go_upto_region 3 with (fail)
      go_cut [4] from 8 to 15 (fun s_4 wx => ∃ g4, s_4 = Value.pointer (some ⟨g4, 0, none⟩) ∧ w.heap.size + 0 ≤ g4 ∧ VarI wx g4 m ∧ VarI wx g m ∧ Below w.heap.size w wx)
      case first =>
        obtain ⟨base, hbase0⟩ : ∃ b : Nat, Hid (b = wr.heap.size) := ⟨_, Lib.hid rfl⟩
        have hbase : base ≤ wr.heap.size := by rw [hbase0.out]; exact Nat.le_refl _
        have hbw : w.heap.size + 0 ≤ base := by have := hb1.size; rw [hbase0.out]; omega
        have l_V : g < base := by rw [hbase0.out]; exact V.lt
        refine wp_tabGF Try.f49 3 (oneT0 g m base) [] (fun i => i == 2) 3 1 (by kernel_rfl) (by kernel_rfl) (by kernel_rfl) (by kernel_rfl) (by kernel_rfl) ⟨fun h => (by cases h), ⟨fun h => (by cases h), ⟨fun _ w v h => Sp.var_lt h, trivial⟩⟩⟩ ?_ ?_
        · refine ⟨fun _ _ F => gR rfl rfl (arm_index0 rfl (F.k 5 (Value.slice (some ⟨g, 0, none⟩) 1 1)) (F.k 7 (Value.int IntKind.i64 0))).b, ?_⟩
          refine ⟨fun _ _ F => gR rfl rfl (arm_load rfl (F.f 0 rfl) (V.mono F.below)).b, ?_⟩
          refine ⟨fun _ _ F => gR rfl rfl (arm_alloc rfl (Nat.le_trans hbase F.below.size)), ?_⟩
          exact trivial
        intro E' hE gp wp bp G Gs
        obtain rfl : E' = [] := by simpa [subs] using hE
        obtain ⟨g4, e_2, lg_2, hv_2⟩ := G 2 4 _ (by simp) rfl
        have n_1 : (Sp.nat (m)).p wp (gp 1) := G 1 10 _ (by simp) rfl
        clear G Gs hE
        simp only [oneT0]
        simp only [qA, setD, qZ, qS, e_2]
        have T0 := hv_2
        refine wpAny_storeN (j := 3) (by kernel_rfl) rfl rfl rfl rfl rfl n_1 T0.any ?_
        intro w0 u0 v0
        have O0 := T0.own
        refine wpAny_done (by kernel_rfl) ?_ _
        go_wp2_with fail
        go_meet
        case rel => exact ⟨g4, rfl, (by omega), v0, ((V.mono bp).upd O0 u0 (by omega)), (Upd.below (hb1.trans (bp.mono hb1.size)) u0 (by omega))⟩
      case rest =>
      clear V hb1
      obtain ⟨g4, rfl, lg4, V4, V, hb1⟩ := hcut
      by_cases h1 : m = 1
      · have hC : cmpI m 1 = 0 := by unfold cmpI; rw [if_neg (by omega), if_neg (by omega)]
        have HC := Lib.hid hC
        have HM := Lib.hid h1
        clear h1 hC
        go_upto_region 4 with (fail)
        go_cut [14] from 8 to 15 (fun s_14 wx => s_14 = Value.bool false ∧ VarI wx g m ∧ VarI wx g4 m ∧ Below w.heap.size w wx)
        case first =>
          refine tG Try.f49 4 (oneT1 m) [] 3 0 ?_ ?_
          · refine ⟨fun _ _ F => gR rfl rfl (arm_load rfl (F.k 4 (Value.pointer (some ⟨g4, 0, none⟩))) (V4.mono F.below)).b, ?_⟩
            refine ⟨fun _ _ F => gR rfl rfl (arm_C1 rfl (enters Try.func58 rfl rfl) Is.const (fun va w h1 => by have e_va : va = _ := h1; subst e_va; exact c_natural_Of 1 w (by decide)) (fun _ _ h => ofNew h)).b, ?_⟩
            refine ⟨fun _ _ F => gR rfl rfl (arm_C2 rfl (enters Try.func78 rfl rfl) (F.f 0 rfl) (F.f 1 rfl) (fun va vb w h1 h2 => c_natural_Cmp va vb m 1 w h1 h2 (Nat.le_trans hm (by decide)) (by decide)) (fun _ _ h => by have h' : RetV _ _ _ _ := h; rw [HC.out] at h'; exact ofV h')).b, ?_⟩
            refine ⟨fun _ _ F => gR rfl rfl (arm_bin rfl (F.f 2 rfl) Is.const (fun _ => rfl) (fun _ => rfl)).b, ?_⟩
            exact trivial
          intro E' hE gp wp bp G Gs
          obtain rfl : E' = [] := by simpa [subs] using hE
          have e_3 : gp 3 = Value.bool false := G 3 14 _ (by simp) rfl
          clear G Gs hE
          simp only [oneT1]
          simp only [qA, setD, qZ, qS, e_3]
          refine wpAny_done (by kernel_rfl) ?_ _
          go_wp2_with fail
          go_meet
          case rel => exact ⟨rfl, (V.mono bp), (V4.mono bp), (hb1.trans (bp.mono hb1.size))⟩
        case rest =>
        clear V V4 hb1
        obtain ⟨rfl, V, V4, hb1⟩ := hcut
        go_wp2_with fail
        go_roundw
        case rel => exact ⟨.inr ⟨rfl, HM⟩, by assumption, by assumption⟩
        case measure => simp [intOf]
      · have hC : (cmpI m 1 != 0) = true := by have h9 : cmpI m 1 ≠ 0 := (by unfold cmpI; split; decide; split; decide; omega); simpa using h9
        obtain ⟨C, HC⟩ : ∃ C : Int, Hid (cmpI m 1 = C) := ⟨_, Lib.hid rfl⟩
        rw [HC.out] at hC
        obtain ⟨B2, hB2⟩ : ∃ B : Bool, Hid (B = (C != 0)) := ⟨_, Lib.hid rfl⟩
        obtain rfl : B2 = true := by rw [hB2.out]; exact hC
        have HM := Lib.hid h1
        clear h1 hC
        go_upto_region 4 with (fail)
        go_cut [14] from 8 to 15 (fun s_14 wx => s_14 = Value.bool true ∧ VarI wx g m ∧ VarI wx g4 m ∧ Below w.heap.size w wx)
        case first =>
          refine tG Try.f49 4 (oneT2 m C) [] 3 0 ?_ ?_
          · refine ⟨fun _ _ F => gR rfl rfl (arm_load rfl (F.k 4 (Value.pointer (some ⟨g4, 0, none⟩))) (V4.mono F.below)).b, ?_⟩
            refine ⟨fun _ _ F => gR rfl rfl (arm_C1 rfl (enters Try.func58 rfl rfl) Is.const (fun va w h1 => by have e_va : va = _ := h1; subst e_va; exact c_natural_Of 1 w (by decide)) (fun _ _ h => ofNew h)).b, ?_⟩
            refine ⟨fun _ _ F => gR rfl rfl (arm_C2 rfl (enters Try.func78 rfl rfl) (F.f 0 rfl) (F.f 1 rfl) (fun va vb w h1 h2 => c_natural_Cmp va vb m 1 w h1 h2 (Nat.le_trans hm (by decide)) (by decide)) (fun _ _ h => by have h' : RetV _ _ _ _ := h; rw [HC.out] at h'; exact ofV h')).b, ?_⟩
            refine ⟨fun _ _ F => gR rfl rfl (arm_bin rfl (F.f 2 rfl) Is.const (fun _ => rfl) (fun w => by rw [hB2.out]; rfl)).b, ?_⟩
            exact trivial
          intro E' hE gp wp bp G Gs
          obtain rfl : E' = [] := by simpa [subs] using hE
          have e_3 : gp 3 = Value.bool true := G 3 14 _ (by simp) rfl
          clear G Gs hE
          simp only [oneT2]
          simp only [qA, setD, qZ, qS, e_3]
          refine wpAny_done (by kernel_rfl) ?_ _
          go_wp2_with fail
          go_meet
          case rel => exact ⟨rfl, (V.mono bp), (V4.mono bp), (hb1.trans (bp.mono hb1.size))⟩
        case rest =>
        clear V V4 hb1
        obtain ⟨rfl, V, V4, hb1⟩ := hcut
        go_wp2
        go_ret
        exact ⟨by rw [decide_eq_false HM.out]; rfl, hb1⟩
    · go_wp2
      go_ret
      exact ⟨by rw [decide_eq_true HM.out]; rfl, hb1⟩
end Go.Proofs.Ytldnimohnbjfaaa
