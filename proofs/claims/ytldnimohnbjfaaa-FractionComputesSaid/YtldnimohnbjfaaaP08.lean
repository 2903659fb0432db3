/- Stores that leave an unnamed world behind; calls of whatever contract in tables. Sub of package fraction; Mul of the reference. -/
import Derived.Test.YtldnimohnbjfaaaP07
namespace Go.Proofs.Ytldnimohnbjfaaa
set_option linter.unusedSimpArgs false
set_option linter.unusedVariables false
set_option maxRecDepth 100000
open Go.RowKit
/-- In w' only block g may differ from what it was in w. -/
structure Upd (w : World) (g : Nat) (w' : World) : Prop where
  os : w'.os = w.os
  tape : w'.tape = w.tape
  output : w'.output = w.output
  size : w'.heap.size = w.heap.size
  block : ∀ k, k ≠ g → w'.heap[k]? = w.heap[k]?
theorem Upd.cell (w : World) (g k : Nat) (u : Value) : Upd w g (w.setCell ⟨g, k, none⟩ u) := ⟨rfl, rfl, rfl, by simp [World.setCell], fun i hi => Below.heap_setCell _ _ _ _ hi⟩
theorem Upd.trans {a b c : World} {g : Nat} (h : Upd a g b) (k : Upd b g c) : Upd a g c := ⟨k.os.trans h.os, k.tape.trans h.tape, k.output.trans h.output, k.size.trans h.size, fun i hi => (k.block i hi).trans (h.block i hi)⟩
theorem Upd.below {W w w' : World} {g B : Nat} (h : Below B W w) (u : Upd w g w') (hB : B ≤ g) : Below B W w' :=
  h.trans ⟨u.os, u.tape, u.output, by rw [u.size]; exact Nat.le_refl _, fun k hk => u.block k (by omega)⟩
/-- Block g is a variable: no row of digits lies there. -/
def Own (w : World) (g : Nat) : Prop := ∃ (cs : Array Value) (t : TypeId), w.heap[g]? = some (Obj.cells cs t (0, 0)) ∧ ∀ (k : Nat) (n : Int), cs[k]? ≠ some (Value.int .u32 n)
theorem VarB.own {w : World} {g L c : Nat} {a : Option Addr} (h : VarB w g a L c) : Own w g := ⟨_, _, h, fun k n => by
  match k with
  | 0 => intro h; cases h
  | k + 1 => intro h; simp at h⟩
theorem VarFB.own {w : World} {g L c M d : Nat} {s : Bool} {a b : Option Addr} (h : VarFB w g s a L c b M d) : Own w g := ⟨_, _, h, fun k n => by
  match k with
  | 0 => intro h; cases h
  | 1 => intro h; cases h
  | 2 => intro h; cases h
  | k + 3 => intro h; simp at h⟩
theorem VarI.own {w : World} {g N : Nat} (h : VarI w g N) : Own w g := by obtain ⟨_, _, h, _⟩ := h; exact h.own
theorem VarF.own {w : World} {g p q : Nat} {s : Bool} (h : VarF w g s p q) : Own w g := by obtain ⟨_, _, _, _, h, _⟩ := h; exact h.own
theorem Own.ne {w : World} {g k o : Nat} {x : Int} (h : Own w g) (hd : w.cell? ⟨k, o, none⟩ = some (.int .u32 x)) : k ≠ g := by
  rintro rfl
  obtain ⟨cs, t, h1, h2⟩ := h
  rw [cell_of_row w k o _ _ (0, 0) h1] at hd
  exact h2 o x hd
section
variable {w w' : World} {g g' N L c M d p q : Nat} {s : Bool} {a b : Option Addr}
theorem IsR.upd {v : Value} {L N : Nat} (h : IsR w v L N) (o : Own w g) (u : Upd w g w') : IsR w' v L N := by
  obtain ⟨x, cap, rfl, hc, hx⟩ := h
  refine ⟨x, cap, rfl, hc, hx.lt, fun hL => ?_⟩
  obtain ⟨b, off, rfl, hd⟩ := hx.cells hL
  have hne : b ≠ g := o.ne (by simpa using hd 0 hL)
  refine ⟨b, off, rfl, fun j hj => ?_⟩
  rw [World.cell?_of_block (u.block b hne)]; exact hd j hj
theorem IsN.upd {v : Value} (h : IsN w v N) (o : Own w g) (u : Upd w g w') : IsN w' v N := IsR.upd h o u
theorem IsF.upd {v : Value} (h : IsF w v s p q) (o : Own w g) (u : Upd w g w') : IsF w' v s p q := by
  obtain ⟨x, cx, y, cy, rfl, h1, h2⟩ := h; exact ⟨x, cx, y, cy, rfl, h1.upd o u, h2.upd o u⟩
theorem VarB.upd (h : VarB w g' a L c) (o : Own w g) (u : Upd w g w') (hn : g' ≠ g) : VarB w' g' a L c := (u.block g' hn).trans h
theorem VarFB.upd (h : VarFB w g' s a L c b M d) (o : Own w g) (u : Upd w g w') (hn : g' ≠ g) : VarFB w' g' s a L c b M d := (u.block g' hn).trans h
theorem VarI.upd (h : VarI w g' N) (o : Own w g) (u : Upd w g w') (hn : g' ≠ g) : VarI w' g' N := by
  obtain ⟨x, cx, h1, h2⟩ := h; exact ⟨x, cx, h1.upd o u hn, h2.upd o u⟩
theorem VarF.upd (h : VarF w g' s p q) (o : Own w g) (u : Upd w g w') (hn : g' ≠ g) : VarF w' g' s p q := by
  obtain ⟨x, cx, y, cy, h0, h1, h2⟩ := h; exact ⟨x, cx, y, cy, h0.upd o u hn, h1.upd o u, h2.upd o u⟩
theorem VarI.zero (h : VarB w g none 0 0) : VarI w g 0 := ⟨none, 0, by rw [nl_zero]; exact h, by rw [nl_zero]; exact NewN.isN (base := 0) NewN.of_zero⟩
theorem VarF.zero (h : VarFB w g false none 0 0 none 0 0) : VarF w g false 0 0 := by
  have h0 : IsN w (.agg #[.slice none (nl 0) 0]) 0 := by rw [nl_zero]; exact NewN.isN (base := 0) NewN.of_zero
  exact ⟨none, 0, none, 0, by rw [nl_zero]; exact h, h0, h0⟩
theorem VarFB.upd_put {s' : Bool} {a' b' : Option Addr} {L' c' M' d' : Nat} : Upd w g (putF w g s' a' L' c' b' M' d') := ((Upd.cell w g 0 _).trans (Upd.cell _ g 1 _)).trans (Upd.cell _ g 2 _)
end
section
variable {Q : Exit → Act → World → Prop} {md : Region.Mode} {ops : Array Oper} {o : Oper} {a : Act} {w : World} {j fuel : Nat} {listed : Array Bool} {x y : Operand} {g L c M d N p q : Nat} {s t : Bool} {u v : Option Addr}
theorem wp_storeN {K : Act → World → Prop} (hop : o.op = .store 24 x y) (hd : o.dst = none) (hx : a.eval x = .pointer (some ⟨g, 0, none⟩)) (hy : IsN w (a.eval y) N) (hv : ∃ s L c, VarB w g s L c)
    (hK : ∀ w1, Upd w g w1 → VarI w1 g N → K a w1) : Oper.wp Try.prog o a w K Q := by
  obtain ⟨s, L, c, hv⟩ := hv
  obtain ⟨x1, c1, e⟩ := hy.shape
  rw [e] at hy
  exact wp_store hop hd hx e ⟨_, _, _, rfl⟩ hv (hK _ (Upd.cell w g 0 _) ⟨x1, c1, hv.set, hy.upd hv.own (Upd.cell w g 0 _)⟩)
theorem wp_storeFr {K : Act → World → Prop} (hop : o.op = .store 26 x y) (hd : o.dst = none) (hx : a.eval x = .pointer (some ⟨g, 0, none⟩)) (hy : IsF w (a.eval y) t p q) (hv : ∃ s u L c v M d, VarFB w g s u L c v M d)
    (hK : ∀ w1, Upd w g w1 → VarF w1 g t p q → K a w1) : Oper.wp Try.prog o a w K Q := by
  obtain ⟨s, u, L, c, v, M, d, hv⟩ := hv
  obtain ⟨x1, c1, x2, c2, e, h1, h2⟩ := hy
  unfold Oper.wp execOp
  rw [hop]
  simp only [hx, e, Sem.run_bind, run_storeF hv, Result.andThen, Sem.run_pure, Oper.upon_skip]
  rw [hd]
  exact hK _ VarFB.upd_put ⟨x1, c1, x2, c2, hv.put, h1.putF hv, h2.putF hv⟩
/-- A store that is left. -/
theorem wpAny_storeN (hr : Region.ready md ops listed = [j]) (ho : ops[j]? = some o) (hop : o.op = .store 24 x y) (hg : o.guard = none) (hd : o.dst = none)
    (hx : a.eval x = .pointer (some ⟨g, 0, none⟩)) (hy : IsN w (a.eval y) N) (hv : ∃ s L c, VarB w g s L c) (h : ∀ w1, Upd w g w1 → VarI w1 g N → wpAny Try.prog md ops Q fuel (listed.setIfInBounds j true) a w1) :
    wpAny Try.prog md ops Q (fuel + 1) listed a w := by
  refine wpAny_ready hr (by simp) (AllReady.cons ho (fun K hK => ?_) AllReady.nil)
  rw [if_pos (wanted_none hg)]
  exact wp_storeN hop hd hx hy hv (fun w1 u1 v1 => hK _ _ (h w1 u1 v1))
theorem wpAny_storeFr (hr : Region.ready md ops listed = [j]) (ho : ops[j]? = some o) (hop : o.op = .store 26 x y) (hg : o.guard = none) (hd : o.dst = none)
    (hx : a.eval x = .pointer (some ⟨g, 0, none⟩)) (hy : IsF w (a.eval y) t p q) (hv : ∃ s u L c v M d, VarFB w g s u L c v M d) (h : ∀ w1, Upd w g w1 → VarF w1 g t p q → wpAny Try.prog md ops Q fuel (listed.setIfInBounds j true) a w1) :
    wpAny Try.prog md ops Q (fuel + 1) listed a w := by
  refine wpAny_ready hr (by simp) (AllReady.cons ho (fun K hK => ?_) AllReady.nil)
  rw [if_pos (wanted_none hg)]
  exact wp_storeFr hop hd hx hy hv (fun w1 u1 v1 => hK _ _ (h w1 u1 v1))
theorem VarB.any (h : VarB w g u L c) : ∃ s L c, VarB w g s L c := ⟨_, _, _, h⟩
theorem VarI.any (h : VarI w g N) : ∃ s L c, VarB w g s L c := by obtain ⟨_, _, h, _⟩ := h; exact ⟨_, _, _, h⟩
theorem VarFB.any (h : VarFB w g s u L c v M d) : ∃ s u L c v M d, VarFB w g s u L c v M d := ⟨_, _, _, _, _, _, _, h⟩
theorem VarF.any (h : VarF w g s p q) : ∃ s u L c v M d, VarFB w g s u L c v M d := by obtain ⟨_, _, _, _, h, _⟩ := h; exact ⟨_, _, _, _, _, _, _, h⟩
end
def Sp.pair (A B : Sp) : Sp := ⟨fun w v => ∃ x y, v = .tuple #[x, y] ∧ A.p w x ∧ B.p w y, fun w w' _ h hb => by obtain ⟨x, y, rfl, h1, h2⟩ := h; exact ⟨x, y, rfl, A.st w w' _ h1 hb, B.st w w' _ h2 hb⟩⟩
def Sp.trip (A B C : Sp) : Sp := ⟨fun w v => ∃ x y z, v = .tuple #[x, y, z] ∧ A.p w x ∧ B.p w y ∧ C.p w z, fun w w' _ h hb => by obtain ⟨x, y, z, rfl, h1, h2, h3⟩ := h; exact ⟨x, y, z, rfl, A.st w w' _ h1 hb, B.st w w' _ h2 hb, C.st w w' _ h3 hb⟩⟩
section
variable {Q : Exit → Act → World → Prop} {md : Region.Mode} {ops : Array Oper} {o : Oper} {a : Act} {w : World} {j fuel : Nat} {listed : Array Bool} {x y : Operand} {g L c M d N p q : Nat} {s t : Bool} {u v : Option Addr}
section
variable {f : FuncId} {S S1 S2 S3 : Sp} {z : Operand} {tt : Array TypeId} {R : World → Ending → World → Prop}
theorem arm_C0 (ho : o.op = .call { callee := .value (.func f), args := #[], argTypes := tt }) (hen : ∀ (vs : Array Value) w, (callFunc f vs).run Try.prog w = .ok (.enter f vs) w)
    (hc : ∀ w, Calls Try.prog f #[] w (R w)) (hR : ∀ e w', R w e w' → ∃ v, e = .returned v ∧ S.p w' v ∧ Below w.heap.size w w') : Arm Try.prog Q o a w S :=
  arm_call ho hen (R := R w) (by simpa using hc w) hR
theorem arm_C1 (ho : o.op = .call { callee := .value (.func f), args := #[x], argTypes := tt }) (hen : ∀ (vs : Array Value) w, (callFunc f vs).run Try.prog w = .ok (.enter f vs) w)
    (hx : Is a w x S1) (hc : ∀ va w, S1.p w va → Calls Try.prog f #[va] w (R w)) (hR : ∀ e w', R w e w' → ∃ v, e = .returned v ∧ S.p w' v ∧ Below w.heap.size w w') : Arm Try.prog Q o a w S :=
  arm_call ho hen (R := R w) (by simpa using hc _ w hx) hR
theorem arm_C2 (ho : o.op = .call { callee := .value (.func f), args := #[x, y], argTypes := tt }) (hen : ∀ (vs : Array Value) w, (callFunc f vs).run Try.prog w = .ok (.enter f vs) w)
    (hx : Is a w x S1) (hy : Is a w y S2) (hc : ∀ va vb w, S1.p w va → S2.p w vb → Calls Try.prog f #[va, vb] w (R w)) (hR : ∀ e w', R w e w' → ∃ v, e = .returned v ∧ S.p w' v ∧ Below w.heap.size w w') : Arm Try.prog Q o a w S :=
  arm_call ho hen (R := R w) (by simpa using hc _ _ w hx hy) hR
theorem arm_C3 (ho : o.op = .call { callee := .value (.func f), args := #[x, y, z], argTypes := tt }) (hen : ∀ (vs : Array Value) w, (callFunc f vs).run Try.prog w = .ok (.enter f vs) w)
    (hx : Is a w x S1) (hy : Is a w y S2) (hz : Is a w z S3) (hc : ∀ va vb vc w, S1.p w va → S2.p w vb → S3.p w vc → Calls Try.prog f #[va, vb, vc] w (R w)) (hR : ∀ e w', R w e w' → ∃ v, e = .returned v ∧ S.p w' v ∧ Below w.heap.size w w') : Arm Try.prog Q o a w S :=
  arm_call ho hen (R := R w) (by simpa using hc _ _ _ w hx hy hz) hR
theorem arm_pair0 {A B : Sp} (ho : o.op = .extract x 0) (hx : Is a w x (.pair A B)) : Arm Try.prog Q o a w A := by
  obtain ⟨u, v, e, h1, _⟩ := hx
  exact arm_run u (run_ext ho e rfl w) h1
theorem arm_pair1 {A B : Sp} (ho : o.op = .extract x 1) (hx : Is a w x (.pair A B)) : Arm Try.prog Q o a w B := by
  obtain ⟨u, v, e, _, h1⟩ := hx
  exact arm_run v (run_ext ho e rfl w) h1
theorem arm_trip0 {A B C : Sp} (ho : o.op = .extract x 0) (hx : Is a w x (.trip A B C)) : Arm Try.prog Q o a w A := by
  obtain ⟨u, v, z, e, h1, _, _⟩ := hx
  exact arm_run u (run_ext ho e rfl w) h1
theorem arm_trip1 {A B C : Sp} (ho : o.op = .extract x 1) (hx : Is a w x (.trip A B C)) : Arm Try.prog Q o a w B := by
  obtain ⟨u, v, z, e, _, h1, _⟩ := hx
  exact arm_run v (run_ext ho e rfl w) h1
theorem arm_trip2 {A B C : Sp} (ho : o.op = .extract x 2) (hx : Is a w x (.trip A B C)) : Arm Try.prog Q o a w C := by
  obtain ⟨u, v, z, e, _, _, h1⟩ := hx
  exact arm_run z (run_ext ho e rfl w) h1
theorem ofSub {w w' : World} {m n : Nat} {e : Ending} (h : RetSub w m n e w') : ∃ v, e = .returned v ∧ (Sp.pair (.nat (m - n)) (.val (.bool (decide (n ≤ m))))).p w' v ∧ Below w.heap.size w w' := by
  obtain ⟨v, rfl, h1, h2⟩ := h; exact ⟨_, rfl, ⟨_, _, rfl, h1.isN, rfl⟩, h2⟩
theorem ofDiv {w w' : World} {q r : Nat} {c : Int} {e : Ending} (h : RetDiv w q r c e w') : ∃ v, e = .returned v ∧ (Sp.trip (.nat q) (.nat r) (.val (.int .i64 c))).p w' v ∧ Below w.heap.size w w' := by
  obtain ⟨v, u, rfl, h1, h2, h3⟩ := h; exact ⟨_, rfl, ⟨_, _, _, rfl, h1.isN, h2.isN, rfl⟩, h3⟩
theorem ofP {w w' : World} {N : Nat} {c : Int} {e : Ending} (h : RetP w N c e w') : ∃ v, e = .returned v ∧ (Sp.pair (.nat N) (.val (.int .i64 c))).p w' v ∧ Below w.heap.size w w' := by
  obtain ⟨v, rfl, h1, h2⟩ := h; exact ⟨_, rfl, ⟨_, _, rfl, h1.isN, rfl⟩, h2⟩
theorem ofFEp {w w' : World} {p q : Nat} {c : Int} {e : Ending} (h : RetFE w s p q c e w') : ∃ v, e = .returned v ∧ (Sp.pair (.fr s p q) (.val (.int .i64 c))).p w' v ∧ Below w.heap.size w w' := by
  obtain ⟨v, rfl, h1, h2⟩ := h; exact ⟨_, rfl, ⟨_, _, rfl, h1, rfl⟩, h2⟩
end
theorem arm_build0F (ho : o.op = .build 26 #[]) : Arm Try.prog Q o a w (.fr false 0 0) := by
  refine arm_run (.agg #[.bool false, .slice none 0 0, .slice none 0 0]) ?_ (IsF.zero w)
  unfold execOp
  rw [ho]
  simp only [List.map_toArray, List.map_nil]
  go_simp
end
theorem res_N {fn : Func} {p : Tmp} (h : fn.results = #[.cell p 24]) {tmps : Array Value} {w : World} {g L c : Nat} {a : Option Addr}
    (hp : tmps[p]? = some (.pointer (some ⟨g, 0, none⟩))) (hv : VarB w g a L c) : (results fn tmps).run Try.prog w = .ok (.agg #[.slice a L c]) w := by
  have c0 := hv.cell
  simp [results, h, hp, asAddr, loadVar, go_sem, c0]
theorem run_eqBB (a b : Bool) (w : World) : (binOp BinOp.eql 4 (.bool a) (.bool b)).run Try.prog w = .ok (.bool (a == b)) w := by cases a <;> cases b <;> rfl
theorem resN {w : World} : Below w.heap.size w (w.alloc (.cells #[.slice none 0 0] 24)) ∧ VarB (w.alloc (.cells #[.slice none 0 0] 24)) w.heap.size none 0 0 := ⟨bel1 w _, VarB.made w none 0 0⟩
/-- A fraction: sign, numerator, denominator. -/
structure Fq where
  s : Bool
  p : Nat
  q : Nat
abbrev VarQ (w : World) (g : Nat) (x : Fq) : Prop := VarF w g x.s x.p x.q
abbrev IsQ (w : World) (v : Value) (x : Fq) : Prop := IsF w v x.s x.p x.q
abbrev Sp.fq (x : Fq) : Sp := .fr x.s x.p x.q
def RetQ (W : World) (x : Fq) (e : Ending) (w' : World) : Prop := RetF W x.s x.p x.q e w'
def RetQE (W : World) (x : Fq) (c : Int) (e : Ending) (w' : World) : Prop := RetFE W x.s x.p x.q c e w'
theorem ofQ {w w' : World} {x : Fq} {e : Ending} (h : RetQ w x e w') : ∃ v, e = .returned v ∧ (Sp.fq x).p w' v ∧ Below w.heap.size w w' := h
theorem ofQE {w w' : World} {x : Fq} {c : Int} {e : Ending} (h : RetQE w x c e w') : ∃ v, e = .returned v ∧ (Sp.pair (.fq x) (.val (.int .i64 c))).p w' v ∧ Below w.heap.size w w' := ofFEp h
def Fq.low (s : Bool) (m n : Nat) : Fq := ⟨lowS s m, lowP m n, lowQ m n⟩
def Fq.neg (x : Fq) : Fq := ⟨lowS (!x.s) x.p, x.p, x.q⟩
def Fq.add (x y : Fq) : Fq := .low (addG x.s y.s (x.p * y.q) (y.p * x.q)) (addM x.s y.s (x.p * y.q) (y.p * x.q)) (x.q * y.q)
def Fq.mul (x y : Fq) : Fq := .low (x.s != y.s) (x.p * y.p) (x.q * y.q)
def Fq.div (x y : Fq) : Fq := .low (x.s != y.s) (x.p * y.q) (x.q * y.p)
def Fq.sub (x y : Fq) : Fq := x.add y.neg
def Fq.sgn (x : Fq) : Int := if x.p = 0 then 0 else if x.s then -1 else 1
def Fq.cmp (x y : Fq) : Int := (x.sub y).sgn
def Fq.zero : Fq := ⟨false, 0, 0⟩
/-- At most d digits; the denominator is not zero. -/
structure Fq.ok (d : Nat) (x : Fq) : Prop where
  p : nl x.p ≤ d
  q : nl x.q ≤ d
  n : x.q ≠ 0
section
variable {x y : Fq} {d e : Nat}
theorem Fq.ok.mono (h : x.ok d) (hd : d ≤ e) : x.ok e := ⟨Nat.le_trans h.p hd, Nat.le_trans h.q hd, h.n⟩
theorem Fq.ok_low {s : Bool} {m n : Nat} (hm : nl m ≤ d) (hn : nl n ≤ d) (h0 : n ≠ 0) : (Fq.low s m n).ok d :=
  ⟨Nat.le_trans (nl_mono (Nat.div_le_self _ _)) hm, Nat.le_trans (nl_mono (Nat.div_le_self _ _)) hn, fun h => by
    have h1 : n / Nat.gcd m n = 0 := h
    rw [Nat.div_eq_zero_iff] at h1
    have h2 := Nat.gcd_pos_of_pos_right m (Nat.pos_of_ne_zero h0)
    have h3 := Nat.gcd_le_right m (Nat.pos_of_ne_zero h0)
    omega⟩
theorem Fq.ok.neg (h : x.ok d) : x.neg.ok d := ⟨h.p, h.q, h.n⟩
theorem Fq.ok.mul (h : x.ok d) (k : y.ok e) : (x.mul y).ok (d + e) := Fq.ok_low (nl_mul2 h.p k.p) (nl_mul2 h.q k.q) (Nat.mul_ne_zero h.n k.n)
theorem Fq.ok.div (h : x.ok d) (k : y.ok e) (h0 : y.p ≠ 0) : (x.div y).ok (d + e) := Fq.ok_low (nl_mul2 h.p k.q) (nl_mul2 h.q k.p) (Nat.mul_ne_zero h.n h0)
theorem Fq.ok.add (h : x.ok d) (k : y.ok e) : (x.add y).ok (d + e + (d + e) + 1) :=
  Fq.ok_low (Nat.le_trans (nl_mono (addM_le _ _ _ _)) (nl_add2 (nl_mul2 h.p k.q) (Nat.le_trans (nl_mul2 k.p h.q) (by omega)))) (Nat.le_trans (nl_mul2 h.q k.q) (by omega)) (Nat.mul_ne_zero h.n k.n)
theorem Fq.ok.sub (h : x.ok d) (k : y.ok e) : (x.sub y).ok (d + e + (d + e) + 1) := h.add k.neg
end
theorem q_fNeg (va : Value) (x : Fq) (w : World) (ha : IsQ w va x) (h : x.ok 1000000000) : Calls Try.prog 39 #[va] w fun e w' => RetQ w x.neg e w' := c_fNeg va x.s x.p x.q w ha h.p h.q
theorem q_rNeg (va : Value) (x : Fq) (w : World) (ha : IsQ w va x) (h : x.ok 1000000000) : Calls Try.prog 45 #[va] w fun e w' => RetQ w x.neg e w' := c_rNeg va x.s x.p x.q w ha h.p h.q
theorem q_fAdd (va vb : Value) (x y : Fq) (w : World) (ha : IsQ w va x) (hb : IsQ w vb y) (h : x.ok 1000000000) (k : y.ok 1000000000) : Calls Try.prog 37 #[va, vb] w fun e w' => RetQ w (x.add y) e w' := c_fAdd va vb x.s y.s x.p x.q y.p y.q w ha hb h.p h.q k.p k.q h.n k.n
theorem q_fMul (va vb : Value) (x y : Fq) (w : World) (ha : IsQ w va x) (hb : IsQ w vb y) (h : x.ok 1000000000) (k : y.ok 1000000000) : Calls Try.prog 38 #[va, vb] w fun e w' => RetQ w (x.mul y) e w' := c_fMul va vb x.s y.s x.p x.q y.p y.q w ha hb h.p h.q k.p k.q h.n k.n
theorem q_low (s : Bool) (va vb : Value) (m n : Nat) (w : World) (ha : IsN w va m) (hb : IsN w vb n) (hm : nl m ≤ 10000000000) (hn : nl n ≤ 10000000000) (h0 : n ≠ 0) : Calls Try.prog 65 #[.bool s, va, vb] w fun e w' => RetQ w (Fq.low s m n) e w' := c_lowest s va vb m n w ha hb hm hn h0
theorem q_Make (s : Bool) (va vb : Value) (m n : Nat) (w : World) (ha : IsN w va m) (hb : IsN w vb n) (hm : nl m ≤ 10000000000) (hn : nl n ≤ 10000000000) (h0 : n ≠ 0) : Calls Try.prog 25 #[.bool s, va, vb] w fun e w' => RetQE w (Fq.low s m n) 0 e w' := (c_Make s va vb m n w ha hb hm hn).mono fun _ _ h => h.2 h0
theorem q_rMake (s : Bool) (va vb : Value) (m n : Nat) (w : World) (ha : IsN w va m) (hb : IsN w vb n) (hm : nl m ≤ 10000000000) (hn : nl n ≤ 10000000000) (h0 : n ≠ 0) : Calls Try.prog 26 #[.bool s, va, vb] w fun e w' => RetQE w (Fq.low s m n) 0 e w' := (c_rMake s va vb m n w ha hb hm hn).mono fun _ _ h => h.2 h0
theorem q_Make0 (s : Bool) (va vb : Value) (m n : Nat) (w : World) (ha : IsN w va m) (hb : IsN w vb n) (hm : nl m ≤ 10000000000) (hn : nl n ≤ 10000000000) (h0 : n = 0) : Calls Try.prog 25 #[.bool s, va, vb] w fun e w' => RetQE w Fq.zero 8 e w' := (c_Make s va vb m n w ha hb hm hn).mono fun _ _ h => h.1 h0
theorem q_rMake0 (s : Bool) (va vb : Value) (m n : Nat) (w : World) (ha : IsN w va m) (hb : IsN w vb n) (hm : nl m ≤ 10000000000) (hn : nl n ≤ 10000000000) (h0 : n = 0) : Calls Try.prog 26 #[.bool s, va, vb] w fun e w' => RetQE w Fq.zero 8 e w' := (c_rMake s va vb m n w ha hb hm hn).mono fun _ _ h => h.1 h0
end Go.Proofs.Ytldnimohnbjfaaa
namespace Go.Proofs.Ytldnimohnbjfaaa
set_option linter.unusedSimpArgs false
set_option linter.unusedVariables false
set_option maxRecDepth 100000
open Go.RowKit
def fSubT0 (x : Fq) (y : Fq) : List (Nat × Tmp × Sp) :=
   [(0, 5, .fq x),
    (1, 6, .fq y),
    (2, 7, .fq y.neg),
    (3, 8, .fq (x.add y.neg))]
set_option maxHeartbeats 4000000 in
theorem q_fSub (va vb : Value) (x y : Fq) (w : World) (ha : IsQ w va x) (hb : IsQ w vb y) (h : x.ok 1000000000) (k : y.ok 1000000000) :
    Calls Try.prog 34 #[va, vb] w fun e w' => RetQ w (x.sub y) e w' := by
  obtain ⟨a0, c0, b0, d0, rfl, m0, k0⟩ := boxF ha
  obtain ⟨a1, c1, b1, d1, rfl, m1, k1⟩ := boxF (hb.mono m0)
  rw [World.size_alloc ] at k1
  have n1 := m0.trans (m1.mono m0.size)
  obtain ⟨m2, k2⟩ := resF (w := ((w.alloc (.cells #[.bool x.s, .slice a0 (nl x.p) c0, .slice b0 (nl x.q) d0] 26)).alloc (.cells #[.bool y.s, .slice a1 (nl y.p) c1, .slice b1 (nl y.q) d1] 26)))
  rw [World.size_alloc, World.size_alloc ] at k2
  have n2 := n1.trans (m2.mono n1.size)
  clear ha hb
  go_enter Try.func34, Try.ntmps34
  go_upto_region 0 with (fail)
  go_cut [2, 3, 4] (fun s_2 s_3 s_4 wx => s_2 = Value.pointer (some ⟨w.heap.size, 0, none⟩) ∧ s_3 = Value.pointer (some ⟨w.heap.size + 1, 0, none⟩) ∧ s_4 = Value.pointer (some ⟨w.heap.size + 2, 0, none⟩) ∧ VarQ wx w.heap.size x ∧ VarQ wx (w.heap.size + 1) y ∧ VarFB wx (w.heap.size + 2) false none 0 0 none 0 0 ∧ Below w.heap.size w wx)
  case first =>
    go_wp2_with fail
    go_meet
    case rel => exact ⟨rfl, rfl, rfl, ((k0.mono m1).mono m2), (k1.mono m2), k2, n2⟩
  case rest =>
  clear m0 k0 m1 k1 m2 k2 n1 n2
  obtain ⟨rfl, rfl, rfl, V0, V1, V2, hb1⟩ := hcut
  go_upto_region 1 with (fail)
  go_cut [] (fun wx => VarQ wx w.heap.size x ∧ VarQ wx (w.heap.size + 1) y ∧ VarQ wx (w.heap.size + 2) (x.add y.neg) ∧ Below w.heap.size w wx)
  case first =>
    refine tG Try.f34 1 (fSubT0 x y) [] 4 1 ?_ ?_
    · refine ⟨fun _ _ F => gR rfl rfl (arm_loadF rfl (F.k 2 (Value.pointer (some ⟨w.heap.size, 0, none⟩))) (V0.mono F.below)).b, ?_⟩
      refine ⟨fun _ _ F => gR rfl rfl (arm_loadF rfl (F.k 3 (Value.pointer (some ⟨w.heap.size + 1, 0, none⟩))) (V1.mono F.below)).b, ?_⟩
      refine ⟨fun _ _ F => gR rfl rfl (arm_C1 rfl (enters Try.func39 rfl rfl) (F.f 1 rfl) (fun va w h1 => q_fNeg va y w h1 k) (fun _ _ h => ofQ h)).b, ?_⟩
      refine ⟨fun _ _ F => gR rfl rfl (arm_C2 rfl (enters Try.func37 rfl rfl) (F.f 0 rfl) (F.f 2 rfl) (fun va vb w h1 h2 => q_fAdd va vb x y.neg w h1 h2 h k.neg) (fun _ _ h => ofQ h)).b, ?_⟩
      exact trivial
    intro E' hE gp wp bp G Gs
    obtain rfl : E' = [] := by simpa [subs] using hE
    have n_3 : (Sp.fq (x.add y.neg)).p wp (gp 3) := G 3 8 _ (by simp) rfl
    clear G Gs hE
    simp only [fSubT0]
    simp only [qA, setD, qZ, qS]
    have T0 := (V2.mono bp V2.lt)
    refine wpAny_storeFr (j := 4) (by kernel_rfl) rfl rfl rfl rfl rfl n_3 T0.any ?_
    intro w0 u0 v0
    have O0 := T0.own
    refine wpAny_done (by kernel_rfl) ?_ _
    go_wp2_with fail
    go_meet
    case rel => exact ⟨((V0.mono bp).upd O0 u0 (by omega)), ((V1.mono bp).upd O0 u0 (by omega)), v0, (Upd.below (hb1.trans (bp.mono hb1.size)) u0 (by omega))⟩
  case rest =>
  clear V0 V1 V2 hb1
  obtain ⟨V0, V1, V2, hb1⟩ := hcut
  obtain ⟨r1, r2, r3, r4, rV, rn, rm⟩ := V2
  have c0 := rV.cell0
  have c1 := rV.cell1
  have c2 := rV.cell2
  go_wp2
  exact bodyPost_ret (res_F rfl rfl rV) rfl ⟨_, rfl, ⟨r1, r2, r3, r4, rfl, rn, rm⟩, hb1⟩
def rMulT0 (w : World) (x : Fq) (y : Fq) (X : Nat) (Dn : Nat) (base : Nat) : List (Nat × Tmp × Sp) :=
   [(0, 8, .val (Value.pointer (some ⟨w.heap.size, 0, none⟩))),
    (1, 9, .val (Value.bool x.s)),
    (2, 10, .val (Value.pointer (some ⟨w.heap.size + 1, 0, none⟩))),
    (3, 11, .val (Value.bool y.s)),
    (4, 12, .val (Value.bool (x.s != y.s))),
    (5, 13, .val (Value.pointer (some ⟨w.heap.size, 1, none⟩))),
    (6, 14, .nat (x.p)),
    (7, 15, .val (Value.pointer (some ⟨w.heap.size + 1, 1, none⟩))),
    (8, 16, .nat (y.p)),
    (9, 17, .nat (X)),
    (10, 18, .val (Value.pointer (some ⟨w.heap.size, 2, none⟩))),
    (11, 19, .nat (x.q)),
    (12, 20, .val (Value.pointer (some ⟨w.heap.size + 1, 2, none⟩))),
    (13, 21, .nat (y.q)),
    (14, 22, .nat (Dn)),
    (15, 23, .pair (.fq (Fq.low (x.s != y.s) X Dn)) (.val (Value.int IntKind.i64 0))),
    (16, 7, .pair (.fq (Fq.low (x.s != y.s) X Dn)) (.val (Value.int IntKind.i64 0))),
    (17, 24, .fq (Fq.low (x.s != y.s) X Dn)),
    (18, 25, .val (Value.int IntKind.i64 0)),
    (19, 5, .varF base)]
def rMulT1 (x : Fq) (y : Fq) (X : Nat) (Dn : Nat) : List (Nat × Tmp × Sp) :=
   [(0, 26, .fq (Fq.low (x.s != y.s) X Dn))]
set_option maxHeartbeats 4000000 in
theorem q_rMul (va vb : Value) (x y : Fq) (w : World) (ha : IsQ w va x) (hb : IsQ w vb y) (h : x.ok 1000000000) (k : y.ok 1000000000) :
    Calls Try.prog 44 #[va, vb] w fun e w' => RetQ w (x.mul y) e w' := by
  have b_xp : nl x.p ≤ 1000000000000 := Nat.le_trans h.p (by decide)
  have b_xq : nl x.q ≤ 1000000000000 := Nat.le_trans h.q (by decide)
  have b_yp : nl y.p ≤ 1000000000000 := Nat.le_trans k.p (by decide)
  have b_yq : nl y.q ≤ 1000000000000 := Nat.le_trans k.q (by decide)
  obtain ⟨X, hX⟩ : ∃ N : Nat, Hid (N = x.p * y.p) := ⟨_, Lib.hid rfl⟩
  obtain ⟨Dn, hDn⟩ : ∃ N : Nat, Hid (N = x.q * y.q) := ⟨_, Lib.hid rfl⟩
  have hXb : nl X ≤ 10000000000 := by rw [hX.out]; exact Nat.le_trans (nl_mul2 h.p k.p) (by decide)
  have hDb : nl Dn ≤ 10000000000 := by rw [hDn.out]; exact Nat.le_trans (nl_mul2 h.q k.q) (by decide)
  have HD0 : Hid (Dn ≠ 0) := Lib.hid (by rw [hDn.out]; exact Nat.mul_ne_zero h.n k.n)
  show Calls Try.prog 44 #[va, vb] w fun e w' => RetQ w (Fq.low (x.s != y.s) (x.p * y.p) (x.q * y.q)) e w'
  rw [← hX.out, ← hDn.out]
  obtain ⟨a0, c0, b0, d0, rfl, m0, k0⟩ := boxF ha
  obtain ⟨a1, c1, b1, d1, rfl, m1, k1⟩ := boxF (hb.mono m0)
  rw [World.size_alloc ] at k1
  have n1 := m0.trans (m1.mono m0.size)
  obtain ⟨m2, k2⟩ := resF (w := ((w.alloc (.cells #[.bool x.s, .slice a0 (nl x.p) c0, .slice b0 (nl x.q) d0] 26)).alloc (.cells #[.bool y.s, .slice a1 (nl y.p) c1, .slice b1 (nl y.q) d1] 26)))
  rw [World.size_alloc, World.size_alloc ] at k2
  have n2 := n1.trans (m2.mono n1.size)
  clear ha hb
  go_enter Try.func44, Try.ntmps44
  go_upto_region 0 with (fail)
  go_cut [2, 3, 4] (fun s_2 s_3 s_4 wx => s_2 = Value.pointer (some ⟨w.heap.size, 0, none⟩) ∧ s_3 = Value.pointer (some ⟨w.heap.size + 1, 0, none⟩) ∧ s_4 = Value.pointer (some ⟨w.heap.size + 2, 0, none⟩) ∧ VarQ wx w.heap.size x ∧ VarQ wx (w.heap.size + 1) y ∧ VarFB wx (w.heap.size + 2) false none 0 0 none 0 0 ∧ Below w.heap.size w wx)
  case first =>
    go_wp2_with fail
    go_meet
    case rel => exact ⟨rfl, rfl, rfl, ((k0.mono m1).mono m2), (k1.mono m2), k2, n2⟩
  case rest =>
  clear m0 k0 m1 k1 m2 k2 n1 n2
  obtain ⟨rfl, rfl, rfl, V0, V1, V2, hb1⟩ := hcut
  go_upto_region 1 with (fail)
  go_cut [5] (fun s_5 wx => ∃ g5, s_5 = Value.pointer (some ⟨g5, 0, none⟩) ∧ w.heap.size + 3 ≤ g5 ∧ VarQ wx g5 (Fq.low (x.s != y.s) X Dn) ∧ VarQ wx w.heap.size x ∧ VarQ wx (w.heap.size + 1) y ∧ VarFB wx (w.heap.size + 2) false none 0 0 none 0 0 ∧ Below w.heap.size w wx)
  case first =>
    obtain ⟨base, hbase0⟩ : ∃ b : Nat, Hid (b = wc.heap.size) := ⟨_, Lib.hid rfl⟩
    have hbase : base ≤ wc.heap.size := by rw [hbase0.out]; exact Nat.le_refl _
    have hbw : w.heap.size + 3 ≤ base := by have := hb1.size; have h1 := V2.lt; rw [hbase0.out]; omega
    have l_V0 : w.heap.size < base := by rw [hbase0.out]; exact V0.lt
    have l_V1 : w.heap.size + 1 < base := by rw [hbase0.out]; exact V1.lt
    have l_V2 : w.heap.size + 2 < base := by rw [hbase0.out]; exact V2.lt
    refine wp_tabG Try.f44 1 (rMulT0 w x y X Dn base) [18] (fun i => i == 19) 9 2 (by kernel_rfl) (by kernel_rfl) (by kernel_rfl) (by kernel_rfl) (by kernel_rfl) ⟨fun h => (by cases h), ⟨fun h => (by cases h), ⟨fun h => (by cases h), ⟨fun h => (by cases h), ⟨fun h => (by cases h), ⟨fun h => (by cases h), ⟨fun h => (by cases h), ⟨fun h => (by cases h), ⟨fun h => (by cases h), ⟨fun h => (by cases h), ⟨fun h => (by cases h), ⟨fun h => (by cases h), ⟨fun h => (by cases h), ⟨fun h => (by cases h), ⟨fun h => (by cases h), ⟨fun h => (by cases h), ⟨fun h => (by cases h), ⟨fun h => (by cases h), ⟨fun h => (by cases h), ⟨fun _ w v h => Sp.varF_lt h, trivial⟩⟩⟩⟩⟩⟩⟩⟩⟩⟩⟩⟩⟩⟩⟩⟩⟩⟩⟩⟩ ?_ ?_
    · refine ⟨fun _ _ F => gR rfl rfl (arm_fieldF rfl (F.k 2 (Value.pointer (some ⟨w.heap.size, 0, none⟩))) (run_field0 _)).b, ?_⟩
      refine ⟨fun _ _ F => gR rfl rfl (arm_loadS rfl (F.f 0 rfl) (V0.mono F.below)).b, ?_⟩
      refine ⟨fun _ _ F => gR rfl rfl (arm_fieldF rfl (F.k 3 (Value.pointer (some ⟨w.heap.size + 1, 0, none⟩))) (run_field0 _)).b, ?_⟩
      refine ⟨fun _ _ F => gR rfl rfl (arm_loadS rfl (F.f 2 rfl) (V1.mono F.below)).b, ?_⟩
      refine ⟨fun _ _ F => gR rfl rfl (arm_bin rfl (F.f 1 rfl) (F.f 3 rfl) (fun _ => rfl) (fun w => run_neB _ _ w)).b, ?_⟩
      refine ⟨fun _ _ F => gR rfl rfl (arm_fieldF rfl (F.k 2 (Value.pointer (some ⟨w.heap.size, 0, none⟩))) (run_field1 _)).b, ?_⟩
      refine ⟨fun _ _ F => gR rfl rfl (arm_load1 rfl (F.f 5 rfl) (V0.mono F.below)).b, ?_⟩
      refine ⟨fun _ _ F => gR rfl rfl (arm_fieldF rfl (F.k 3 (Value.pointer (some ⟨w.heap.size + 1, 0, none⟩))) (run_field1 _)).b, ?_⟩
      refine ⟨fun _ _ F => gR rfl rfl (arm_load1 rfl (F.f 7 rfl) (V1.mono F.below)).b, ?_⟩
      refine ⟨fun _ _ F => gR rfl rfl (arm_C2 rfl (enters Try.func75 rfl rfl) (F.f 6 rfl) (F.f 8 rfl) (fun va vb w h1 h2 => c_ref_Mul va vb x.p y.p w h1 h2 b_xp b_yp) (fun _ _ h => by rw [hX.out]; exact ofNew h)).b, ?_⟩
      refine ⟨fun _ _ F => gR rfl rfl (arm_fieldF rfl (F.k 2 (Value.pointer (some ⟨w.heap.size, 0, none⟩))) (run_field2 _)).b, ?_⟩
      refine ⟨fun _ _ F => gR rfl rfl (arm_load2 rfl (F.f 10 rfl) (V0.mono F.below)).b, ?_⟩
      refine ⟨fun _ _ F => gR rfl rfl (arm_fieldF rfl (F.k 3 (Value.pointer (some ⟨w.heap.size + 1, 0, none⟩))) (run_field2 _)).b, ?_⟩
      refine ⟨fun _ _ F => gR rfl rfl (arm_load2 rfl (F.f 12 rfl) (V1.mono F.below)).b, ?_⟩
      refine ⟨fun _ _ F => gR rfl rfl (arm_C2 rfl (enters Try.func75 rfl rfl) (F.f 11 rfl) (F.f 13 rfl) (fun va vb w h1 h2 => c_ref_Mul va vb x.q y.q w h1 h2 b_xq b_yq) (fun _ _ h => by rw [hDn.out]; exact ofNew h)).b, ?_⟩
      refine ⟨fun _ _ F => gR rfl rfl (arm_C3 rfl (enters Try.func26 rfl rfl) (F.f 4 rfl) (F.f 9 rfl) (F.f 14 rfl) (fun va vb vc w h1 h2 h3 => by have e_va : va = _ := h1; subst e_va; exact q_rMake (x.s != y.s) vb vc X Dn w h2 h3 (by omega) (by omega) HD0.out) (fun _ _ h => ofQE h)).b, ?_⟩
      refine ⟨fun _ _ F => gR rfl rfl (arm_move (.inl rfl) (F.f 15 rfl)).b, ?_⟩
      refine ⟨fun _ _ F => gR rfl rfl (arm_pair0 rfl (F.f 16 rfl)).b, ?_⟩
      refine ⟨fun _ _ F => gR rfl rfl (arm_pair1 rfl (F.f 16 rfl)).b, ?_⟩
      refine ⟨fun _ _ F => gR rfl rfl (arm_allocF rfl (Nat.le_trans hbase F.below.size)), ?_⟩
      exact trivial
    intro E' hE gp wp bp G Gs
    simp only [subs, List.map_cons, List.map_nil, List.nil_append, List.cons_append, List.mem_cons, List.not_mem_nil, or_false, List.append_nil] at hE
    rcases hE with rfl | rfl
    · obtain ⟨g5, e_19, lg_19, hv_19⟩ := G 19 5 _ (by simp) rfl
      have n_17 : (Sp.fq (Fq.low (x.s != y.s) X Dn)).p wp (gp 17) := G 17 24 _ (by simp) rfl
      have e_18 : gp 18 = Value.int IntKind.i64 0 := G 18 25 _ (by simp) rfl
      clear G Gs
      simp only [rMulT0]
      simp only [qA, setD, qZ, qS, e_19, e_18]
      have T0 := hv_19
      refine wpAny_storeFr (j := 20) (by kernel_rfl) rfl rfl rfl rfl rfl n_17 T0.any ?_
      intro w0 u0 v0
      have O0 := T0.own
      refine wpAny_takeD (i := 21) (d := some 6) (v := Value.int IntKind.i64 0) rfl rfl (by kernel_rfl) (by kernel_rfl) (by kernel_rfl) (fun _ _ _ h => h) (Or.inl ⟨by rfl, fun w => by rfl⟩) ?_
      try simp only [qP, qZ, qS]
      refine wpAny_done (by kernel_rfl) ?_ _
      go_wp2_with fail
      go_meet
      case rel => exact ⟨g5, rfl, (by omega), v0, ((V0.mono bp).upd O0 u0 (by omega)), ((V1.mono bp).upd O0 u0 (by omega)), ((V2.mono bp V2.lt).upd O0 u0 (by omega)), (Upd.below (hb1.trans (bp.mono hb1.size)) u0 (by omega))⟩
    · obtain ⟨g5, e_19, lg_19, hv_19⟩ := G 19 5 _ (by simp) rfl
      obtain ⟨x_16_0, x_16_1, e_16, n_16_0, rfl⟩ := G 16 7 _ (by simp) rfl
      have n_17 : (Sp.fq (Fq.low (x.s != y.s) X Dn)).p wp (gp 17) := G 17 24 _ (by simp) rfl
      clear G Gs
      simp only [rMulT0]
      simp only [qA, setD, qZ, qS, e_19, e_16]
      refine wpAny_takeD (i := 18) (d := some 25) (v := Value.int IntKind.i64 0) rfl rfl (by kernel_rfl) (by kernel_rfl) (by kernel_rfl) (fun _ _ _ h => h) (Or.inl ⟨by rfl, fun w => by rfl⟩) ?_
      try simp only [qP, qZ, qS]
      have T0 := hv_19
      refine wpAny_storeFr (j := 20) (by kernel_rfl) rfl rfl rfl rfl rfl n_17 T0.any ?_
      intro w0 u0 v0
      have O0 := T0.own
      refine wpAny_takeD (i := 21) (d := some 6) (v := Value.int IntKind.i64 0) rfl rfl (by kernel_rfl) (by kernel_rfl) (by kernel_rfl) (fun _ _ _ h => h) (Or.inl ⟨by rfl, fun w => by rfl⟩) ?_
      try simp only [qP, qZ, qS]
      refine wpAny_done (by kernel_rfl) ?_ _
      go_wp2_with fail
      go_meet
      case rel => exact ⟨g5, rfl, (by omega), v0, ((V0.mono bp).upd O0 u0 (by omega)), ((V1.mono bp).upd O0 u0 (by omega)), ((V2.mono bp V2.lt).upd O0 u0 (by omega)), (Upd.below (hb1.trans (bp.mono hb1.size)) u0 (by omega))⟩
  case rest =>
  clear V0 V1 V2 hb1
  obtain ⟨g5, rfl, lg5, V5, V0, V1, V2, hb1⟩ := hcut
  go_upto_region 2 with (fail)
  go_cut [] (fun wx => VarQ wx w.heap.size x ∧ VarQ wx (w.heap.size + 1) y ∧ VarQ wx (w.heap.size + 2) (Fq.low (x.s != y.s) X Dn) ∧ VarQ wx g5 (Fq.low (x.s != y.s) X Dn) ∧ Below w.heap.size w wx)
  case first =>
    refine tF Try.f44 2 (rMulT1 x y X Dn) [] 2 1 ?_ ?_
    · refine ⟨fun _ _ F => gR rfl rfl (arm_loadF rfl (F.k 5 (Value.pointer (some ⟨g5, 0, none⟩))) (V5.mono F.below)).b, ?_⟩
      exact trivial
    intro E' hE gp wp bp G Gs
    obtain rfl : E' = [] := by simpa [subs] using hE
    have n_0 : (Sp.fq (Fq.low (x.s != y.s) X Dn)).p wp (gp 0) := G 0 26 _ (by simp) rfl
    clear G Gs hE
    simp only [rMulT1]
    simp only [qA, setD, qZ, qS]
    have T0 := (V2.mono bp V2.lt)
    refine wpAny_storeFr (j := 1) (by kernel_rfl) rfl rfl rfl rfl rfl n_0 T0.any ?_
    intro w0 u0 v0
    have O0 := T0.own
    refine wpAny_done (by kernel_rfl) ?_ _
    go_wp2_with fail
    go_meet
    case rel => exact ⟨((V0.mono bp).upd O0 u0 (by omega)), ((V1.mono bp).upd O0 u0 (by omega)), v0, ((V5.mono bp).upd O0 u0 (by omega)), (Upd.below (hb1.trans (bp.mono hb1.size)) u0 (by omega))⟩
  case rest =>
  clear V0 V1 V2 V5 hb1
  obtain ⟨V0, V1, V2, V5, hb1⟩ := hcut
  obtain ⟨r1, r2, r3, r4, rV, rn, rm⟩ := V2
  have c0 := rV.cell0
  have c1 := rV.cell1
  have c2 := rV.cell2
  go_wp2
  exact bodyPost_ret (res_F rfl rfl rV) rfl ⟨_, rfl, ⟨r1, r2, r3, r4, rfl, rn, rm⟩, hb1⟩
end Go.Proofs.Ytldnimohnbjfaaa
