/- Fractions: stores, the operations of tables. Make of package fraction. Mul, Neg of package fraction; Neg of the reference. Add of package fraction. Stores that leave an unnamed world behind; calls of whatever contract in tables. An executor: abstract values, what they say of values in memory. An executor: the operations of a region in whatever order. An executor: a region as a whole. An executor: operations that make a value and leave memory alone. An executor: operations that make a value do what is said of them. An executor: operations that make a value, one by one. -/
import Derived.Test.YthebfmlfgfmlnaaGreatDoorP05
import Derived.Laws.AppendOwn
namespace Go.Proofs.YthebfmlfgfmlnaaGreatDoor
set_option linter.unusedSimpArgs false
set_option linter.unusedVariables false
set_option maxRecDepth 100000
open Go.RowKit
/-- The fraction variable g is written. -/
def putF (w : World) (g : Nat) (s : Bool) (a : Option Addr) (L c : Nat) (b : Option Addr) (M d : Nat) : World :=
  ((w.setCell ⟨g, 0, none⟩ (.bool s)).setCell ⟨g, 1, none⟩ (.slice a L c)).setCell ⟨g, 2, none⟩ (.slice b M d)
section
variable {w : World} {g L c M d L' c' M' d' : Nat} {s s' : Bool} {a b a' b' : Option Addr}
theorem VarFB.put (h : VarFB w g s a L c b M d) : VarFB (putF w g s' a' L' c' b' M' d') g s' a' L' c' b' M' d' := by
  have h1 := heap_setCell_same w g 0 _ _ (.bool s') h
  have h2 := heap_setCell_same _ g 1 _ _ (.slice a' L' c') h1
  have h3 := heap_setCell_same _ g 2 _ _ (.slice b' M' d') h2
  exact h3
theorem putF_heap {k : Nat} (hk : k ≠ g) : (putF w g s a L c b M d).heap[k]? = w.heap[k]? := by
  unfold putF
  rw [Below.heap_setCell _ _ _ k hk, Below.heap_setCell _ _ _ k hk, Below.heap_setCell _ _ _ k hk]
theorem VarFB.ne (h : VarFB w g s a L c b M d) {k o : Nat} {x : Int} {ki : IntKind} (hd : w.cell? ⟨k, o, none⟩ = some (.int ki x)) : k ≠ g := by
  rintro rfl
  rw [cell_of_row w k o _ _ (0, 0) h] at hd
  match o, hd with
  | 0, hd => cases hd
  | 1, hd => cases hd
  | 2, hd => cases hd
  | (o + 3), hd => simp at hd
theorem IsN.putF {v : Value} {N : Nat} (h : IsN w v N) (hg : VarFB w g s a L c b M d) : IsN (putF w g s' a' L' c' b' M' d') v N := by
  obtain ⟨x, cap, rfl, hc, hx⟩ := h
  refine ⟨x, cap, rfl, hc, hx.lt, fun hL => ?_⟩
  obtain ⟨k, off, rfl, hd⟩ := hx.cells hL
  have hne : k ≠ g := hg.ne (by simpa using hd 0 hL)
  refine ⟨k, off, rfl, fun j hj => ?_⟩
  rw [World.cell?_of_block (putF_heap (by simpa using hne))]; exact hd j hj
theorem IsF.putF {v : Value} {t : Bool} {p q : Nat} (h : IsF w v t p q) (hg : VarFB w g s a L c b M d) : IsF (putF w g s' a' L' c' b' M' d') v t p q := by
  obtain ⟨x, cx, y, cy, rfl, h1, h2⟩ := h; exact ⟨x, cx, y, cy, rfl, h1.putF hg, h2.putF hg⟩
end
section
variable {Q : Exit → Act → World → Prop} {o : Oper} {a : Act} {w : World} {x y z : Operand} {m n p q g : Nat} {s : Bool} {tt : Array TypeId}
end
/-- The end of a contract that hands back a fraction and an error's number. -/
def RetFE (W : World) (s : Bool) (p q : Nat) (c : Int) (e : Ending) (w' : World) : Prop := ∃ v, e = .returned (.tuple #[v, .int .i64 c]) ∧ IsF w' v s p q ∧ Below W.heap.size W w'
theorem IsF.zero (w : World) : IsF w (.agg #[.bool false, .slice none 0 0, .slice none 0 0]) false 0 0 := by
  have h : IsN w (.agg #[.slice none (nl 0) 0]) 0 := by rw [nl_zero]; exact NewN.isN (base := 0) NewN.of_zero
  exact ⟨none, 0, none, 0, by rw [nl_zero], h, h⟩
theorem VarF.of {w : World} {g p q c d : Nat} {s : Bool} {a b : Option Addr} (h : VarFB w g s a (nl p) c b (nl q) d) (h1 : IsN w (.agg #[.slice a (nl p) c]) p) (h2 : IsN w (.agg #[.slice b (nl q) d]) q) : VarF w g s p q := ⟨a, c, b, d, h, h1, h2⟩
end Go.Proofs.YthebfmlfgfmlnaaGreatDoor
namespace Go.Proofs.YthebfmlfgfmlnaaGreatDoor
set_option linter.unusedSimpArgs false
set_option linter.unusedVariables false
set_option maxRecDepth 100000
open Go.RowKit
/-- The sign of a fraction in lowest terms. -/
def lowS (s : Bool) (m : Nat) : Bool := s && !decide (m = 0)
end Go.Proofs.YthebfmlfgfmlnaaGreatDoor
namespace Go.Proofs.YthebfmlfgfmlnaaGreatDoor
set_option linter.unusedSimpArgs false
set_option linter.unusedVariables false
set_option maxRecDepth 100000
open Go.RowKit
def lowP (m n : Nat) : Nat := m / Nat.gcd m n
def lowQ (m n : Nat) : Nat := n / Nat.gcd m n
theorem nl_mul2 {m n d e : Nat} (hm : nl m ≤ d) (hn : nl n ≤ e) : nl (m * n) ≤ d + e := nl_le_iff.2 (sm_mul (nl_le_iff.1 hm) (nl_le_iff.1 hn))
end Go.Proofs.YthebfmlfgfmlnaaGreatDoor
namespace Go.Proofs.YthebfmlfgfmlnaaGreatDoor
set_option linter.unusedSimpArgs false
set_option linter.unusedVariables false
set_option maxRecDepth 100000
open Go.RowKit
theorem VarFB.setOther {w : World} {g L c M d : Nat} {s : Bool} {a b : Option Addr} (h : VarFB w g s a L c b M d) (p : Addr) (u : Value) (hp : p.block ≠ g) : VarFB (w.setCell p u) g s a L c b M d :=
  (Below.heap_setCell w p u g (fun e => hp e.symm)).trans h
theorem VarF.setOther {w : World} {g p q g' L' c' : Nat} {s : Bool} {a' : Option Addr} {u : Value} (h : VarF w g s p q) (h' : VarB w g' a' L' c') (hne : g' ≠ g) : VarF (w.setCell ⟨g', 0, none⟩ u) g s p q := by
  obtain ⟨a, c, b, d, h0, h1, h2⟩ := h
  exact ⟨a, c, b, d, h0.setOther _ _ hne, h1.setVar h', h2.setVar h'⟩
theorem VarF.lt {w : World} {g p q : Nat} {s : Bool} (h : VarF w g s p q) : g < w.heap.size := by obtain ⟨_, _, _, _, h, _⟩ := h; exact h.lt
theorem VarI.lt {w : World} {g N : Nat} (h : VarI w g N) : g < w.heap.size := by obtain ⟨_, _, h, _⟩ := h; exact h.lt
/-- The sum of two fractions over one denominator: its sign before reduction, its numerator. -/
def addG (s s' : Bool) (X Y : Nat) : Bool := if s = s' then s else if Y ≤ X then s else s'
def addM (s s' : Bool) (X Y : Nat) : Nat := if s = s' then X + Y else if Y ≤ X then X - Y else Y - X
theorem nl_add2 {m n d : Nat} (hm : nl m ≤ d) (hn : nl n ≤ d) : nl (m + n) ≤ d + d + 1 := nl_le_iff.2 (sm_add (nl_le_iff.1 hm) (nl_le_iff.1 hn))
theorem addM_le (s s' : Bool) (X Y : Nat) : addM s s' X Y ≤ X + Y := by unfold addM; by_cases h : s = s' <;> by_cases h2 : Y ≤ X <;> simp only [h, h2, if_true, if_false] <;> omega
end Go.Proofs.YthebfmlfgfmlnaaGreatDoor
namespace Go.Proofs.YthebfmlfgfmlnaaGreatDoor
set_option linter.unusedSimpArgs false
set_option linter.unusedVariables false
set_option maxRecDepth 100000
open Go.RowKit
/-- In w' only block g may differ from what it was in w. -/
structure Upd (w : World) (g : Nat) (w' : World) : Prop where
  os : w'.os = w.os
  tape : w'.tape = w.tape
  output : w'.output = w.output
  size : w'.heap.size = w.heap.size
  block : ∀ k, k ≠ g → w'.heap[k]? = w.heap[k]?
theorem Upd.cell (w : World) (g k : Nat) (u : Value) : Upd w g (w.setCell ⟨g, k, none⟩ u) := ⟨rfl, rfl, rfl, by simp [World.setCell], fun i hi => Below.heap_setCell _ _ _ _ hi⟩
theorem Upd.trans {a b c : World} {g : Nat} (h : Upd a g b) (k : Upd b g c) : Upd a g c := ⟨k.os.trans h.os, k.tape.trans h.tape, k.output.trans h.output, k.size.trans h.size, fun i hi => (k.block i hi).trans (h.block i hi)⟩
theorem Upd.below {W w w' : World} {g B : Nat} (h : Below B W w) (u : Upd w g w') (hB : B ≤ g) : Below B W w' :=
  h.trans ⟨u.os, u.tape, u.output, by rw [u.size]; exact Nat.le_refl _, fun k hk => u.block k (by omega)⟩
/-- Block g is a variable: no row of digits lies there. -/
def Own (w : World) (g : Nat) : Prop := ∃ (cs : Array Value) (t : TypeId), w.heap[g]? = some (Obj.cells cs t (0, 0)) ∧ ∀ (k : Nat) (n : Int), cs[k]? ≠ some (Value.int .u32 n)
theorem VarB.own {w : World} {g L c : Nat} {a : Option Addr} (h : VarB w g a L c) : Own w g := ⟨_, _, h, fun k n => by
  match k with
  | 0 => intro h; cases h
  | k + 1 => intro h; simp at h⟩
theorem VarFB.own {w : World} {g L c M d : Nat} {s : Bool} {a b : Option Addr} (h : VarFB w g s a L c b M d) : Own w g := ⟨_, _, h, fun k n => by
  match k with
  | 0 => intro h; cases h
  | 1 => intro h; cases h
  | 2 => intro h; cases h
  | k + 3 => intro h; simp at h⟩
theorem VarI.own {w : World} {g N : Nat} (h : VarI w g N) : Own w g := by obtain ⟨_, _, h, _⟩ := h; exact h.own
theorem VarF.own {w : World} {g p q : Nat} {s : Bool} (h : VarF w g s p q) : Own w g := by obtain ⟨_, _, _, _, h, _⟩ := h; exact h.own
theorem Own.ne {w : World} {g k o : Nat} {x : Int} (h : Own w g) (hd : w.cell? ⟨k, o, none⟩ = some (.int .u32 x)) : k ≠ g := by
  rintro rfl
  obtain ⟨cs, t, h1, h2⟩ := h
  rw [cell_of_row w k o _ _ (0, 0) h1] at hd
  exact h2 o x hd
section
variable {w w' : World} {g g' N L c M d p q : Nat} {s : Bool} {a b : Option Addr}
theorem IsR.upd {v : Value} {L N : Nat} (h : IsR w v L N) (o : Own w g) (u : Upd w g w') : IsR w' v L N := by
  obtain ⟨x, cap, rfl, hc, hx⟩ := h
  refine ⟨x, cap, rfl, hc, hx.lt, fun hL => ?_⟩
  obtain ⟨b, off, rfl, hd⟩ := hx.cells hL
  have hne : b ≠ g := o.ne (by simpa using hd 0 hL)
  refine ⟨b, off, rfl, fun j hj => ?_⟩
  rw [World.cell?_of_block (u.block b hne)]; exact hd j hj
theorem IsN.upd {v : Value} (h : IsN w v N) (o : Own w g) (u : Upd w g w') : IsN w' v N := IsR.upd h o u
theorem IsF.upd {v : Value} (h : IsF w v s p q) (o : Own w g) (u : Upd w g w') : IsF w' v s p q := by
  obtain ⟨x, cx, y, cy, rfl, h1, h2⟩ := h; exact ⟨x, cx, y, cy, rfl, h1.upd o u, h2.upd o u⟩
theorem VarB.upd (h : VarB w g' a L c) (o : Own w g) (u : Upd w g w') (hn : g' ≠ g) : VarB w' g' a L c := (u.block g' hn).trans h
theorem VarFB.upd (h : VarFB w g' s a L c b M d) (o : Own w g) (u : Upd w g w') (hn : g' ≠ g) : VarFB w' g' s a L c b M d := (u.block g' hn).trans h
theorem VarI.upd (h : VarI w g' N) (o : Own w g) (u : Upd w g w') (hn : g' ≠ g) : VarI w' g' N := by
  obtain ⟨x, cx, h1, h2⟩ := h; exact ⟨x, cx, h1.upd o u hn, h2.upd o u⟩
theorem VarF.upd (h : VarF w g' s p q) (o : Own w g) (u : Upd w g w') (hn : g' ≠ g) : VarF w' g' s p q := by
  obtain ⟨x, cx, y, cy, h0, h1, h2⟩ := h; exact ⟨x, cx, y, cy, h0.upd o u hn, h1.upd o u, h2.upd o u⟩
theorem VarI.zero (h : VarB w g none 0 0) : VarI w g 0 := ⟨none, 0, by rw [nl_zero]; exact h, by rw [nl_zero]; exact NewN.isN (base := 0) NewN.of_zero⟩
theorem VarF.zero (h : VarFB w g false none 0 0 none 0 0) : VarF w g false 0 0 := by
  have h0 : IsN w (.agg #[.slice none (nl 0) 0]) 0 := by rw [nl_zero]; exact NewN.isN (base := 0) NewN.of_zero
  exact ⟨none, 0, none, 0, by rw [nl_zero]; exact h, h0, h0⟩
end
section
variable {Q : Exit → Act → World → Prop} {md : Region.Mode} {ops : Array Oper} {o : Oper} {a : Act} {w : World} {j fuel : Nat} {listed : Array Bool} {x y : Operand} {g L c M d N p q : Nat} {s t : Bool} {u v : Option Addr}
theorem VarB.any (h : VarB w g u L c) : ∃ s L c, VarB w g s L c := ⟨_, _, _, h⟩
theorem VarI.any (h : VarI w g N) : ∃ s L c, VarB w g s L c := by obtain ⟨_, _, h, _⟩ := h; exact ⟨_, _, _, h⟩
theorem VarFB.any (h : VarFB w g s u L c v M d) : ∃ s u L c v M d, VarFB w g s u L c v M d := ⟨_, _, _, _, _, _, _, h⟩
theorem VarF.any (h : VarF w g s p q) : ∃ s u L c v M d, VarFB w g s u L c v M d := by obtain ⟨_, _, _, _, h, _⟩ := h; exact ⟨_, _, _, _, _, _, _, h⟩
end
section
variable {Q : Exit → Act → World → Prop} {md : Region.Mode} {ops : Array Oper} {o : Oper} {a : Act} {w : World} {j fuel : Nat} {listed : Array Bool} {x y : Operand} {g L c M d N p q : Nat} {s t : Bool} {u v : Option Addr}
section
variable {f : FuncId} {S S1 S2 S3 : Sp} {z : Operand} {tt : Array TypeId} {R : World → Ending → World → Prop}
end
end
theorem res_N {fn : Func} {p : Tmp} (h : fn.results = #[.cell p 24]) {tmps : Array Value} {w : World} {g L c : Nat} {a : Option Addr}
    (hp : tmps[p]? = some (.pointer (some ⟨g, 0, none⟩))) (hv : VarB w g a L c) : (results fn tmps).run Tryz.prog w = .ok (.agg #[.slice a L c]) w := by
  have c0 := hv.cell
  simp [results, h, hp, asAddr, loadVar, go_sem, c0]
theorem resN {w : World} : Below w.heap.size w (w.alloc (.cells #[.slice none 0 0] 24)) ∧ VarB (w.alloc (.cells #[.slice none 0 0] 24)) w.heap.size none 0 0 := ⟨bel1 w _, VarB.made w none 0 0⟩
/-- A fraction: sign, numerator, denominator. -/
structure Fq where
  s : Bool
  p : Nat
  q : Nat
abbrev IsQ (w : World) (v : Value) (x : Fq) : Prop := IsF w v x.s x.p x.q
def RetQ (W : World) (x : Fq) (e : Ending) (w' : World) : Prop := RetF W x.s x.p x.q e w'
def RetQE (W : World) (x : Fq) (c : Int) (e : Ending) (w' : World) : Prop := RetFE W x.s x.p x.q c e w'
def Fq.low (s : Bool) (m n : Nat) : Fq := ⟨lowS s m, lowP m n, lowQ m n⟩
def Fq.neg (x : Fq) : Fq := ⟨lowS (!x.s) x.p, x.p, x.q⟩
def Fq.add (x y : Fq) : Fq := .low (addG x.s y.s (x.p * y.q) (y.p * x.q)) (addM x.s y.s (x.p * y.q) (y.p * x.q)) (x.q * y.q)
def Fq.mul (x y : Fq) : Fq := .low (x.s != y.s) (x.p * y.p) (x.q * y.q)
def Fq.div (x y : Fq) : Fq := .low (x.s != y.s) (x.p * y.q) (x.q * y.p)
def Fq.sub (x y : Fq) : Fq := x.add y.neg
def Fq.sgn (x : Fq) : Int := if x.p = 0 then 0 else if x.s then -1 else 1
def Fq.cmp (x y : Fq) : Int := (x.sub y).sgn
def Fq.zero : Fq := ⟨false, 0, 0⟩
/-- At most d digits; the denominator is not zero. -/
structure Fq.ok (d : Nat) (x : Fq) : Prop where
  p : nl x.p ≤ d
  q : nl x.q ≤ d
  n : x.q ≠ 0
section
variable {x y : Fq} {d e : Nat}
theorem Fq.ok.mono (h : x.ok d) (hd : d ≤ e) : x.ok e := ⟨Nat.le_trans h.p hd, Nat.le_trans h.q hd, h.n⟩
theorem Fq.ok_low {s : Bool} {m n : Nat} (hm : nl m ≤ d) (hn : nl n ≤ d) (h0 : n ≠ 0) : (Fq.low s m n).ok d :=
  ⟨Nat.le_trans (nl_mono (Nat.div_le_self _ _)) hm, Nat.le_trans (nl_mono (Nat.div_le_self _ _)) hn, fun h => by
    have h1 : n / Nat.gcd m n = 0 := h
    rw [Nat.div_eq_zero_iff] at h1
    have h2 := Nat.gcd_pos_of_pos_right m (Nat.pos_of_ne_zero h0)
    have h3 := Nat.gcd_le_right m (Nat.pos_of_ne_zero h0)
    omega⟩
theorem Fq.ok.neg (h : x.ok d) : x.neg.ok d := ⟨h.p, h.q, h.n⟩
theorem Fq.ok.mul (h : x.ok d) (k : y.ok e) : (x.mul y).ok (d + e) := Fq.ok_low (nl_mul2 h.p k.p) (nl_mul2 h.q k.q) (Nat.mul_ne_zero h.n k.n)
theorem Fq.ok.div (h : x.ok d) (k : y.ok e) (h0 : y.p ≠ 0) : (x.div y).ok (d + e) := Fq.ok_low (nl_mul2 h.p k.q) (nl_mul2 h.q k.p) (Nat.mul_ne_zero h.n h0)
theorem Fq.ok.add (h : x.ok d) (k : y.ok e) : (x.add y).ok (d + e + (d + e) + 1) :=
  Fq.ok_low (Nat.le_trans (nl_mono (addM_le _ _ _ _)) (nl_add2 (nl_mul2 h.p k.q) (Nat.le_trans (nl_mul2 k.p h.q) (by omega)))) (Nat.le_trans (nl_mul2 h.q k.q) (by omega)) (Nat.mul_ne_zero h.n k.n)
theorem Fq.ok.sub (h : x.ok d) (k : y.ok e) : (x.sub y).ok (d + e + (d + e) + 1) := h.add k.neg
end
end Go.Proofs.YthebfmlfgfmlnaaGreatDoor
namespace Go.Proofs.YthebfmlfgfmlnaaGreatDoor
set_option linter.unusedSimpArgs false
set_option linter.unusedVariables false
set_option maxRecDepth 100000
open Go.RowKit
/-- The value of a function. -/
abbrev fnV (f : FuncId) : Value := .func (.func f) #[] #[]
/-- A value of one cell that may be stored into a variable. -/
def Flat (v : Value) : Prop := (∀ cs, v ≠ .agg cs) ∧ (∀ vs, v ≠ .tuple vs) ∧ ∀ n, v ≠ .int .u32 n
/-- The type of strings. -/
def strT : TypeId := 9
/-- Only the blocks of X, in which no digits lie, may have changed. -/
structure Chg (w w' : World) (X : Nat → Prop) : Prop where
  size : w.heap.size ≤ w'.heap.size
  blk : ∀ g, g < w.heap.size → ¬ X g → w'.heap[g]? = w.heap[g]?
  own : ∀ g, X g → Own w g
/-- A property of a value and of the blocks that it names; fp: those of these blocks that are no digits. -/
structure Vp where
  p : World → Value → Prop
  fp : Value → Nat → Prop
  ch : ∀ w w' X v, p w v → Chg w w' X → (∀ g, fp v g → ¬ X g) → p w' v
  lt : ∀ w v g, p w v → fp v g → g < w.heap.size
  fl : ∀ w v, p w v → Flat v
theorem IsR.chg {w w' : World} {X : Nat → Prop} {v : Value} {L N : Nat} (h : IsR w v L N) (k : Chg w w' X) : IsR w' v L N := by
  obtain ⟨x, cap, rfl, hc, hx⟩ := h
  refine ⟨x, cap, rfl, hc, hx.lt, fun hL => ?_⟩
  obtain ⟨b, off, rfl, hd⟩ := hx.cells hL
  have hb : w'.heap[b]? = w.heap[b]? := k.blk b (hd.lt hL) (fun hX => (k.own b hX).ne (by simpa using hd 0 hL) rfl)
  refine ⟨b, off, rfl, fun j hj => ?_⟩
  rw [World.cell?_of_block hb]; exact hd j hj
def Vp.val (u : Value) : Vp := ⟨fun _ v => v = u ∧ Flat v, fun _ _ => False, fun _ _ _ _ h _ _ => h, fun _ _ _ _ h => h.elim, fun _ _ h => h.2⟩
/-- A row of digits. -/
def Vp.dig (L N : Nat) : Vp := ⟨fun w v => IsR w (.agg #[v]) L N, fun _ _ => False, fun _ _ _ _ h k _ => h.chg k, fun _ _ _ _ h => h.elim, fun w v h => by
  obtain ⟨a, c, e, _⟩ := h
  have e2 : v = .slice a L c := by
    injection e with e
    have := congrArg (fun x : Array Value => x[0]?) e
    simpa using this
  subst e2
  exact ⟨fun _ h => by (cases h), fun _ h => by (cases h), fun _ h => by (cases h)⟩⟩
theorem Chg.below {w w' : World} (h : Below w.heap.size w w') : Chg w w' (fun _ => False) := ⟨h.size, fun g hg _ => h.block g hg, fun _ h => h.elim⟩
theorem Chg.upd {w w' : World} {g : Nat} (o : Own w g) (u : Upd w g w') : Chg w w' (fun x => x = g) := ⟨by rw [u.size]; exact Nat.le_refl _, fun k _ hk => u.block k hk, fun k hk => by subst hk; exact o⟩
abbrev Rho := List Vp
/-- What is known of one cell. -/
inductive Leaf where
  | b (x : Bool)
  | i (k : IntKind) (n : Int)
  | ptr (v off : Nat)
  | nilp
  | ref (n : Nat)
  | fn (f : FuncId)
  | sl0
  | s (x : ByteArray)
  | own (i n : Nat)
  deriving DecidableEq
inductive SV where
  | one (l : Leaf)
  | agg (ls : List Leaf)
  deriving DecidableEq
inductive AV where
  | v (s : SV)
  | tup (xs : List SV)
  | any
  deriving DecidableEq
abbrev Blk := Nat → Option Nat
/-- From here on the numbers are those of rows that the call itself made and may append to. -/
abbrev OW : Nat := 1000000
def Leaf.holds (ρ : Rho) (B : Blk) (w : World) (l : Leaf) (v : Value) : Prop :=
  match l with
  | .b x => v = .bool x
  | .i k n => v = .int k n
  | .ptr x o => ∃ g, B x = some g ∧ v = .pointer (some ⟨g, o, none⟩)
  | .nilp => v = .pointer none
  | .ref n => ∃ s, ρ[n]? = some s ∧ s.p w v ∧ ∀ g, s.fp v g → ∀ x, B x ≠ some g
  | .fn f => v = fnV f
  | .sl0 => v = .slice none 0 0
  | .s x => v = .string x
  | .own k m => ∃ s, ρ[m]? = some s ∧ s.p w v ∧ (∀ g, s.fp v g → ∀ x, B x = some g → x = OW + k) ∧ ∀ g, v.ownBlock = some g → B (OW + k) = some g
def LeavesH (ρ : Rho) (B : Blk) (w : World) : List Leaf → List Value → Prop
  | [], [] => True
  | l :: ls, v :: vs => l.holds ρ B w v ∧ LeavesH ρ B w ls vs
  | _, _ => False
def SV.holds (ρ : Rho) (B : Blk) (w : World) (s : SV) (v : Value) : Prop :=
  match s with
  | .one l => l.holds ρ B w v
  | .agg ls => ∃ vs : List Value, v = .agg vs.toArray ∧ LeavesH ρ B w ls vs
def SVsH (ρ : Rho) (B : Blk) (w : World) : List SV → List Value → Prop
  | [], [] => True
  | l :: ls, v :: vs => l.holds ρ B w v ∧ SVsH ρ B w ls vs
  | _, _ => False
def AV.holds (ρ : Rho) (B : Blk) (w : World) (s : AV) (v : Value) : Prop :=
  match s with
  | .v s => s.holds ρ B w v
  | .tup xs => ∃ vs : List Value, v = .tuple vs.toArray ∧ SVsH ρ B w xs vs
  | .any => v = undef
section
variable {ρ : Rho} {B B' : Blk} {w w' : World} {g : Nat} {v : Value}
def BLe (B B' : Blk) : Prop := ∀ x g, B x = some g → B' x = some g
/-- B' has new variables only beyond n. -/
def BNew (n : Nat) (B B' : Blk) : Prop := ∀ x g, B' x = some g → B x = some g ∨ n ≤ g
def BOk (B : Blk) (n : Nat) : Prop := ∀ x g, B x = some g → g < n
theorem BLe.refl : BLe B B := fun _ _ h => h
theorem BNew.refl {n : Nat} : BNew n B B := fun _ _ h => .inl h
theorem Leaf.holds.mono {l : Leaf} (h : l.holds ρ B w v) (hB : BLe B B') (hN : BNew w.heap.size B B') (hb : Below w.heap.size w w') : l.holds ρ B' w' v := by
  cases l <;> simp only [Leaf.holds] at h ⊢ <;> try exact h
  · obtain ⟨g, h1, h2⟩ := h; exact ⟨g, hB _ _ h1, h2⟩
  · obtain ⟨s, h1, h2, h3⟩ := h
    refine ⟨s, h1, s.ch _ _ _ _ h2 (.below hb) (fun _ _ h => h), fun g hg x hx => ?_⟩
    rcases hN x g hx with h | h
    · exact h3 g hg x h
    · have := s.lt _ _ _ h2 hg; omega
  · obtain ⟨s, h1, h2, h3, h4⟩ := h
    refine ⟨s, h1, s.ch _ _ _ _ h2 (.below hb) (fun _ _ h => h), fun g hg x hx => ?_, fun g hg => hB _ _ (h4 g hg)⟩
    rcases hN x g hx with h | h
    · exact h3 g hg x h
    · have := s.lt _ _ _ h2 hg; omega
theorem Leaf.holds.upd {l : Leaf} (h : l.holds ρ B w v) (o : Own w g) (u : Upd w g w') (hx : ∃ x, x < OW ∧ B x = some g) : l.holds ρ B w' v := by
  cases l <;> simp only [Leaf.holds] at h ⊢ <;> try exact h
  · obtain ⟨s, h1, h2, h3⟩ := h
    obtain ⟨x, _, hx⟩ := hx
    exact ⟨s, h1, s.ch _ _ _ _ h2 (.upd o u) (fun k hk e => by subst e; exact h3 _ hk x hx), h3⟩
  · obtain ⟨s, h1, h2, h3, h4⟩ := h
    obtain ⟨x, hlt, hx⟩ := hx
    exact ⟨s, h1, s.ch _ _ _ _ h2 (.upd o u) (fun k hk e => by subst e; have := h3 _ hk x hx; omega), h3, h4⟩
theorem LeavesH.all : ∀ {ls : List Leaf} {vs : List Value}, LeavesH ρ B w ls vs → (∀ (l : Leaf) (v : Value), Leaf.holds ρ B w l v → Leaf.holds ρ B' w' l v) → LeavesH ρ B' w' ls vs
  | [], [], _, _ => trivial
  | _ :: _, _ :: _, h, f => ⟨f _ _ h.1, LeavesH.all h.2 f⟩
  | [], _ :: _, h, _ => h.elim
  | _ :: _, [], h, _ => h.elim
theorem SV.holds.all {s : SV} (h : s.holds ρ B w v) (f : ∀ (l : Leaf) (v : Value), Leaf.holds ρ B w l v → Leaf.holds ρ B' w' l v) : s.holds ρ B' w' v := by
  cases s with
  | one l => exact f _ _ h
  | agg ls => obtain ⟨vs, e, h⟩ := h; exact ⟨vs, e, LeavesH.all h f⟩
theorem SVsH.all : ∀ {ls : List SV} {vs : List Value}, SVsH ρ B w ls vs → (∀ (l : Leaf) (v : Value), Leaf.holds ρ B w l v → Leaf.holds ρ B' w' l v) → SVsH ρ B' w' ls vs
  | [], [], _, _ => trivial
  | _ :: _, _ :: _, h, f => ⟨h.1.all f, SVsH.all h.2 f⟩
  | [], _ :: _, h, _ => h.elim
  | _ :: _, [], h, _ => h.elim
theorem AV.holds.all {s : AV} (h : s.holds ρ B w v) (f : ∀ (l : Leaf) (v : Value), Leaf.holds ρ B w l v → Leaf.holds ρ B' w' l v) : s.holds ρ B' w' v := by
  cases s with
  | v s => exact SV.holds.all h f
  | tup ls => obtain ⟨vs, e, h⟩ := h; exact ⟨vs, e, h.all f⟩
  | any => exact h
theorem AV.holds.mono {s : AV} (h : s.holds ρ B w v) (hB : BLe B B') (hN : BNew w.heap.size B B') (hb : Below w.heap.size w w') : s.holds ρ B' w' v := h.all (fun _ _ h => h.mono hB hN hb)
theorem AV.holds.upd {s : AV} (h : s.holds ρ B w v) (o : Own w g) (u : Upd w g w') (hx : ∃ x, x < OW ∧ B x = some g) : s.holds ρ B w' v := h.all (fun _ _ h => h.upd o u hx)
theorem LeavesH.len : ∀ {ls : List Leaf} {vs : List Value}, LeavesH ρ B w ls vs → vs.length = ls.length
  | [], [], _ => rfl
  | _ :: _, _ :: _, h => by simp [h.2.len]
  | [], _ :: _, h => h.elim
  | _ :: _, [], h => h.elim
theorem LeavesH.get : ∀ {ls : List Leaf} {vs : List Value} {k : Nat} {l : Leaf}, LeavesH ρ B w ls vs → ls[k]? = some l → ∃ v, vs[k]? = some v ∧ l.holds ρ B w v
  | [], [], _, _, _, h => by simp at h
  | _ :: _, v :: _, 0, _, h, e => by simp at e; subst e; exact ⟨v, rfl, h.1⟩
  | _ :: ls, _ :: vs, k + 1, l, h, e => by
    obtain ⟨u, h1, h2⟩ := LeavesH.get (k := k) (l := l) h.2 (by simpa using e)
    exact ⟨u, by simpa using h1, h2⟩
  | [], _ :: _, _, _, h, _ => h.elim
  | _ :: _, [], _, _, h, _ => h.elim
theorem LeavesH.mk : ∀ {ls : List Leaf} {vs : List Value}, vs.length = ls.length → (∀ (k : Nat) (l : Leaf) (v : Value), ls[k]? = some l → vs[k]? = some v → l.holds ρ B w v) → LeavesH ρ B w ls vs
  | [], [], _, _ => trivial
  | l :: ls, v :: vs, e, h => ⟨h 0 l v rfl rfl, LeavesH.mk (by simpa using e) (fun k l v h1 h2 => h (k + 1) l v (by simpa using h1) (by simpa using h2))⟩
  | [], _ :: _, e, _ => by simp at e
  | _ :: _, [], e, _ => by simp at e
theorem SVsH.get : ∀ {ls : List SV} {vs : List Value} {k : Nat} {l : SV}, SVsH ρ B w ls vs → ls[k]? = some l → ∃ v, vs[k]? = some v ∧ l.holds ρ B w v
  | [], [], _, _, _, h => by simp at h
  | _ :: _, v :: _, 0, _, h, e => by simp at e; subst e; exact ⟨v, rfl, h.1⟩
  | _ :: ls, _ :: vs, k + 1, l, h, e => by
    obtain ⟨u, h1, h2⟩ := SVsH.get (k := k) (l := l) h.2 (by simpa using e)
    exact ⟨u, by simpa using h1, h2⟩
  | [], _ :: _, _, _, h, _ => h.elim
  | _ :: _, [], _, _, h, _ => h.elim
theorem LeavesH.append : ∀ {ls ls' : List Leaf} {vs vs' : List Value}, LeavesH ρ B w ls vs → LeavesH ρ B w ls' vs' → LeavesH ρ B w (ls ++ ls') (vs ++ vs')
  | [], _, [], _, _, k => k
  | _ :: _, _, _ :: _, _, h, k => ⟨h.1, LeavesH.append h.2 k⟩
  | [], _, _ :: _, _, h, _ => h.elim
  | _ :: _, _, [], _, h, _ => h.elim
/-- Leaves that may lie in a variable. -/
def Leaf.flat : Leaf → Bool
  | .i .u32 _ => false
  | .own _ _ => false
  | _ => true
theorem Leaf.holds.flat {l : Leaf} (h : l.holds ρ B w v) (hf : l.flat = true) : Flat v := by
  cases l <;> simp only [Leaf.holds] at h
  · subst h; exact ⟨fun _ h => by (cases h), fun _ h => by (cases h), fun _ h => by (cases h)⟩
  · subst h
    rename_i k n
    exact ⟨fun _ h => by (cases h), fun _ h => by (cases h), fun m h => by
      injection h with h1 h2; subst h1; simp [Leaf.flat] at hf⟩
  · obtain ⟨g, _, h⟩ := h; subst h; exact ⟨fun _ h => by (cases h), fun _ h => by (cases h), fun _ h => by (cases h)⟩
  · subst h; exact ⟨fun _ h => by (cases h), fun _ h => by (cases h), fun _ h => by (cases h)⟩
  · obtain ⟨s, _, h, _⟩ := h; exact s.fl _ _ h
  · subst h; exact ⟨fun _ h => by (cases h), fun _ h => by (cases h), fun _ h => by (cases h)⟩
  · subst h; exact ⟨fun _ h => by (cases h), fun _ h => by (cases h), fun _ h => by (cases h)⟩
  · subst h; exact ⟨fun _ h => by (cases h), fun _ h => by (cases h), fun _ h => by (cases h)⟩
  · simp [Leaf.flat] at hf
end
/-- A constant as a leaf. -/
def leafC : Value → Option Leaf
  | .bool x => some (.b x)
  | .int k n => some (.i k n)
  | .pointer none => some .nilp
  | .slice none 0 0 => some .sl0
  | .string s => some (.s s)
  | _ => none
theorem leafC_holds {ρ : Rho} {B : Blk} {w : World} {v : Value} {l : Leaf} (h : leafC v = some l) : l.holds ρ B w v := by
  unfold leafC at h
  split at h <;> first | (injection h with h; subst h; rfl) | cases h
def leavesC : List Value → Option (List Leaf)
  | [] => some []
  | v :: vs => match leafC v, leavesC vs with
    | some l, some ls => some (l :: ls)
    | _, _ => none
theorem leavesC_holds {ρ : Rho} {B : Blk} {w : World} : ∀ {vs : List Value} {ls : List Leaf}, leavesC vs = some ls → LeavesH ρ B w ls vs
  | [], ls, h => by simp [leavesC] at h; subst h; trivial
  | v :: vs, ls, h => by
    unfold leavesC at h
    cases h1 : leafC v with
    | none => rw [h1] at h; simp at h
    | some l =>
      cases h2 : leavesC vs with
      | none => rw [h1, h2] at h; simp at h
      | some l2 => rw [h1, h2] at h; simp at h; subst h; exact ⟨leafC_holds h1, leavesC_holds h2⟩
def svC : Value → Option SV
  | .agg cs => (leavesC cs.toList).map .agg
  | v => (leafC v).map .one
theorem svC_holds {ρ : Rho} {B : Blk} {w : World} {v : Value} {s : SV} (h : svC v = some s) : s.holds ρ B w v := by
  unfold svC at h
  split at h
  · rename_i cs
    cases h1 : leavesC cs.toList with
    | none => rw [h1] at h; cases h
    | some l => rw [h1] at h; simp at h; subst h; exact ⟨cs.toList, by simp, leavesC_holds h1⟩
  · cases h1 : leafC v with
    | none => rw [h1] at h; cases h
    | some l => rw [h1] at h; simp at h; subst h; exact leafC_holds h1
end Go.Proofs.YthebfmlfgfmlnaaGreatDoor
namespace Go.Proofs.YthebfmlfgfmlnaaGreatDoor
set_option linter.unusedSimpArgs false
set_option linter.unusedVariables false
set_option maxRecDepth 100000
open Go.RowKit
/-- Places: slot t is number t; cell k of variable v is number (v + 1) * 100000 + k. -/
def LocH (ρ : Rho) (B : Blk) (a : Act) (w : World) (x : Nat) (c : AV) : Prop :=
  if x < 100000 then ∃ u, a.tmps[x]? = some u ∧ c.holds ρ B w u
  else ∃ g cs ty u, B (x / 100000 - 1) = some g ∧ w.heap[g]? = some (.cells cs ty (0, 0)) ∧ cs[x % 100000]? = some u ∧ c.holds ρ B w u
structure Eff where
  rd : List Nat
  wr : List (Nat × AV)
  al : Option Nat
structure Inv (vt : List (TypeId × Nat)) (w0 : World) (nt : Nat) (B : Blk) (a : Act) (w : World) : Prop where
  blk : ∀ v g, v < OW → B v = some g → w0.heap.size ≤ g ∧ ∃ cs ty, vt[v]? = some (ty, cs.size) ∧ w.heap[g]? = some (.cells cs ty (0, 0)) ∧ (∀ (k : Nat) (n : Int), cs[k]? ≠ some (.int .u32 n))
  own : ∀ v g, OW ≤ v → B v = some g → w0.heap.size ≤ g ∧ g < w.heap.size ∧ Own w g
  inj : ∀ v v' g, B v = some g → B v' = some g → v = v'
  below : Below w0.heap.size w0 w
  size : a.tmps.size = nt
  dfr : a.defers = []
/-- What an operation leaves behind. -/
structure Post (ρ : Rho) (vt : List (TypeId × Nat)) (w0 : World) (nt : Nat) (e : Eff) (B : Blk) (a : Act) (w : World) (B' : Blk) (a' : Act) (w' : World) : Prop where
  le : BLe B B'
  inv : Inv vt w0 nt B' a' w'
  wr : ∀ p ∈ e.wr, LocH ρ B' a' w' p.1 p.2
  keep : ∀ x c, LocH ρ B a w x c → (∀ p ∈ e.wr, p.1 ≠ x) → LocH ρ B' a' w' x c
  new : ∀ v, B v = none → B' v ≠ none → e.al = some v
/-- Operation j, from a state of which lk tells what is known, has effect e. -/
def OpOk (P : Program) (ρ : Rho) (vt : List (TypeId × Nat)) (w0 : World) (nt : Nat) (ops : Array Oper) (Q : Exit → Act → World → Prop) (j : Nat) (lk : Nat → Option AV) (e : Eff) : Prop :=
  ∀ B a w, Inv vt w0 nt B a w → (∀ x ∈ e.rd, ∀ c, lk x = some c → LocH ρ B a w x c) → (∀ v, e.al = some v → B v = none) →
    ∀ K : Act → World → Prop, (∀ B' a' w', Post ρ vt w0 nt e B a w B' a' w' → K a' w') → wpOp P ops Q j K a w
abbrev Effs := List (Nat × Eff)
/-- What is known of a place behind some operations (the newest first). -/
def lkE (b : Nat → Option AV) : Effs → Nat → Option AV
  | [], x => b x
  | (_, e) :: r, x => match e.wr.find? (fun p => p.1 == x) with
    | some p => some p.2
    | none => lkE b r x
def valT (b : Nat → Option AV) (T : List Nat) : Effs → Nat → Option AV
  | [], x => b x
  | (i, e) :: r, x => match (if T.contains i then e.wr.find? (fun p => p.1 == x) else none) with
    | some p => some p.2
    | none => valT b T r x
def noconf (e e' : Eff) : Bool :=
  e'.wr.all (fun p => !e.rd.contains p.1 && !e.wr.any (fun q => q.1 == p.1)) && e'.rd.all (fun x => !e.wr.any (fun q => q.1 == x))
def okAdd (m : Nat) (r : Effs) (e : Eff) : Bool := r.all fun p => m.testBit p.1 || noconf e p.2
section
variable {P : Program} {ρ : Rho} {vt : List (TypeId × Nat)} {w0 : World} {nt : Nat} {ops : Array Oper} {Q : Exit → Act → World → Prop} {b : Nat → Option AV} {md : Region.Mode}
def Closed (md : Region.Mode) (ops : Array Oper) (T : List Nat) : Prop := ∀ j ∈ T, ∀ k ∈ preds md ops j, k ∈ T
def AncOk (md : Region.Mode) (ops : Array Oper) (m j : Nat) : Prop := ∀ i, m.testBit i = true → ∀ T, Closed md ops T → (∀ k ∈ preds md ops j, k ∈ T) → i ∈ T
/-- A run through the operations in the order of the text. -/
def Good (P : Program) (ρ : Rho) (vt : List (TypeId × Nat)) (w0 : World) (nt : Nat) (md : Region.Mode) (ops : Array Oper) (Q : Exit → Act → World → Prop) (b : Nat → Option AV) (nb : Nat) : Effs → Prop
  | [] => True
  | (j, e) :: r => j = r.length ∧ OpOk P ρ vt w0 nt ops Q j (lkE b r) e ∧ (∃ m, AncOk md ops m j ∧ okAdd m r e = true) ∧ (∀ v, e.al = some v → (nb ≤ v ∧ v < OW) ∧ ∀ p ∈ r, p.2.al ≠ some v) ∧ Good P ρ vt w0 nt md ops Q b nb r
theorem valT_app (T : List Nat) (x y : Effs) : valT b T (x ++ y) = valT (valT b T y) T x := by
  induction x with
  | nil => rfl
  | cons p x ih =>
    funext z
    obtain ⟨i, e⟩ := p
    simp only [List.cons_append, valT, ih]
theorem valT_all (T : List Nat) (r : Effs) (h : ∀ p ∈ r, p.1 ∈ T) : valT b T r = lkE b r := by
  induction r with
  | nil => rfl
  | cons p x ih =>
    funext z
    obtain ⟨i, e⟩ := p
    have h1 : T.contains i = true := List.contains_iff_mem.2 (h (i, e) (by simp))
    simp only [valT, lkE, h1, if_true, ih (fun p hp => h p (List.mem_cons_of_mem _ hp))]
theorem find_none {l : List (Nat × AV)} {x : Nat} (h : ∀ p ∈ l, p.1 ≠ x) : l.find? (fun p => p.1 == x) = none := by
  rw [List.find?_eq_none]
  intro p hp
  simpa using h p hp
theorem valT_skip {T : List Nat} {r : Effs} {x : Nat} (h : ∀ p ∈ r, p.1 ∈ T → ∀ q ∈ p.2.wr, q.1 ≠ x) : valT b T r x = b x := by
  induction r with
  | nil => rfl
  | cons p r ih =>
    obtain ⟨i, e⟩ := p
    simp only [valT]
    by_cases hi : T.contains i = true
    · rw [if_pos hi, find_none (h (i, e) (by simp) (List.contains_iff_mem.1 hi))]
      exact ih (fun p hp => h p (List.mem_cons_of_mem _ hp))
    · rw [if_neg hi]
      exact ih (fun p hp => h p (List.mem_cons_of_mem _ hp))
theorem noconf_iff {e e' : Eff} : noconf e e' = true ↔ (∀ p ∈ e'.wr, p.1 ∉ e.rd ∧ ∀ q ∈ e.wr, q.1 ≠ p.1) ∧ ∀ x ∈ e'.rd, ∀ q ∈ e.wr, q.1 ≠ x := by
  unfold noconf
  simp only [Bool.and_eq_true, List.all_eq_true, Bool.not_eq_true', List.any_eq_false, beq_iff_eq, List.contains_eq_mem, decide_eq_false_iff_not]
theorem Good.split {nb : Nat} {r : Effs} (h : Good P ρ vt w0 nt md ops Q b nb r) {j : Nat} (hj : j < r.length) : ∃ hi e lo, r = hi ++ (j, e) :: lo ∧ lo.length = j ∧ Good P ρ vt w0 nt md ops Q b nb ((j, e) :: lo) ∧
    (∀ p ∈ hi, j < p.1 ∧ (∃ m, AncOk md ops m p.1 ∧ (m.testBit j = true ∨ noconf p.2 e = true)) ∧ (∀ v, p.2.al = some v → e.al ≠ some v)) := by
  induction r with
  | nil => simp at hj
  | cons p r ih =>
    obtain ⟨i, e⟩ := p
    obtain ⟨h1, h2, h3, h4, h5⟩ := h
    by_cases hji : j = i
    · subst hji
      exact ⟨[], e, r, rfl, h1.symm, ⟨h1, h2, h3, h4, h5⟩, fun p hp => by cases hp⟩
    · have hj' : j < r.length := by simp at hj; omega
      obtain ⟨hi, e', lo, rfl, e2, hg, hall⟩ := ih h5 hj'
      refine ⟨(i, e) :: hi, e', lo, rfl, e2, hg, fun p hp => ?_⟩
      rcases List.mem_cons.1 hp with rfl | hp
      · obtain ⟨m, hm, hok⟩ := h3
        refine ⟨by simp only; omega, ⟨m, hm, ?_⟩, fun v hv => (h4 v hv).2 (j, e') (by simp)⟩
        unfold okAdd at hok
        have := List.all_eq_true.1 hok (j, e') (by simp)
        simpa using this
      · exact hall p hp
theorem Good.idx {nb : Nat} {r : Effs} (h : Good P ρ vt w0 nt md ops Q b nb r) : ∀ p ∈ r, p.1 < r.length := by
  induction r with
  | nil => intro p hp; cases hp
  | cons p r ih =>
    obtain ⟨i, e⟩ := p
    obtain ⟨h1, h2, h3, h4, h5⟩ := h
    intro q hq
    rcases List.mem_cons.1 hq with rfl | hq
    · simp only [List.length_cons]; omega
    · have := ih h5 q hq; simp only [List.length_cons]; omega
theorem val_lo {T : List Nat} {e : Eff} {x : Nat} (hx : x ∈ e.rd) : ∀ {lo : Effs}, (∀ p ∈ lo, p.1 ∈ T ∨ noconf e p.2 = true) → valT b T lo x = lkE b lo x
  | [], _ => rfl
  | (i, e') :: lo, h => by
    simp only [valT, lkE]
    have ih' := val_lo hx (lo := lo) (fun p hp => h p (List.mem_cons_of_mem _ hp))
    by_cases hiT : T.contains i = true
    · rw [if_pos hiT, ih']
    · rw [if_neg hiT]
      rcases h (i, e') (by simp) with h | h
      · exact absurd (List.contains_iff_mem.2 h) hiT
      · rw [find_none (fun q hq he => ((noconf_iff.1 h).1 q hq).1 (by rw [he]; exact hx))]
        exact ih'
theorem valT_push {T : List Nat} {j : Nat} : ∀ {r : Effs}, (∀ p ∈ r, p.1 ≠ j) → valT b (T ++ [j]) r = valT b T r
  | [], _ => rfl
  | (i, e') :: r, h => by
    funext z
    have hc : (T ++ [j]).contains i = T.contains i := by
      have := h (i, e') (by simp)
      simp only at this
      rw [Bool.eq_iff_iff]; simp [this]
    simp only [valT, hc, valT_push (r := r) (fun p hp => h p (List.mem_cons_of_mem _ hp))]
theorem valT_congr {b' : Nat → Option AV} {T : List Nat} {x : Nat} (h : b x = b' x) : ∀ {r : Effs}, valT b T r x = valT b' T r x
  | [] => h
  | (i, e') :: r => by simp only [valT, valT_congr h (r := r)]
/-- What holds when the operations of T are done. -/
def StT (ρ : Rho) (vt : List (TypeId × Nat)) (w0 : World) (nt : Nat) (b : Nat → Option AV) (nb : Nat) (r : Effs) (T : List Nat) (a : Act) (w : World) : Prop :=
  ∃ B, Inv vt w0 nt B a w ∧ (∀ x c, valT b T r x = some c → LocH ρ B a w x c) ∧ (∀ v, v < OW → B v ≠ none → v < nb ∨ ∃ p ∈ r, p.1 ∈ T ∧ p.2.al = some v)
theorem step_any {nb : Nat} {r : Effs} (hg : Good P ρ vt w0 nt md ops Q b nb r) {T : List Nat} {j : Nat} (hj : j < r.length) (hT : Closed md ops T) (hjT : j ∉ T) (hp : ∀ k ∈ preds md ops j, k ∈ T)
    {a : Act} {w : World} (h : StT ρ vt w0 nt b nb r T a w) {K : Act → World → Prop} (hK : ∀ a' w', StT ρ vt w0 nt b nb r (T ++ [j]) a' w' → K a' w') : wpOp P ops Q j K a w := by
  obtain ⟨hi, e, lo, rfl, hlo, ⟨_, hop, ⟨m, hm, hok⟩, hal, hgl⟩, hhi⟩ := hg.split hj
  obtain ⟨B, hinv, hval, hB⟩ := h
  have hhi' : ∀ p ∈ hi, p.1 ∈ T → noconf p.2 e = true := fun p hp1 hp2 => by
    obtain ⟨_, ⟨m', hm', hor⟩, _⟩ := hhi p hp1
    rcases hor with hor | hor
    · exact absurd (hm' j hor T hT (fun k hk => hT _ hp2 k hk)) hjT
    · exact hor
  have hlo' : ∀ p ∈ lo, p.1 ∈ T ∨ noconf e p.2 = true := fun p hp1 => by
    unfold okAdd at hok
    have := List.all_eq_true.1 hok p hp1
    simp only [Bool.or_eq_true] at this
    rcases this with h | h
    · exact .inl (hm _ h T hT hp)
    · exact .inr h
  have hTj : T.contains j = false := by simpa using hjT
  refine hop B a w hinv (fun x hx c hc => ?_) (fun v hv => ?_) K (fun B' a' w' hpost => hK a' w' ⟨B', hpost.inv, fun x c hc => ?_, fun v hvl hv => ?_⟩)
  · refine hval x c ?_
    rw [valT_app]
    rw [valT_skip (fun p hp1 hp2 q hq => ?_)]
    · show valT b T ((j, e) :: lo) x = _
      simp only [valT, hTj, Bool.false_eq_true, if_false]
      rw [← hc]
      exact val_lo hx hlo'
    · intro he
      have h1 := hhi' p hp1 hp2
      exact (noconf_iff.1 h1).2 x hx q hq he
  · have h0 := hal v hv
    cases hBv : B v with
    | none => rfl
    | some g =>
      rcases hB v h0.1.2 (by rw [hBv]; simp) with h | ⟨p, hp1, hp2, hp3⟩
      · omega
      · rcases List.mem_append.1 hp1 with h | h
        · exact absurd hv ((hhi p h).2.2 v hp3)
        · rcases List.mem_cons.1 h with rfl | h
          · exact absurd hp2 hjT
          · exact absurd hp3 (h0.2 p h)
  · -- the places behind
    have hhi2 : ∀ p ∈ hi, p.1 ∈ T ++ [j] → p.1 ∈ T := fun p hp1 hp2 => by
      rcases List.mem_append.1 hp2 with h | h
      · exact h
      · simp at h; have := (hhi p hp1).1; omega
    have hTj' : (T ++ [j]).contains j = true := by simp
    by_cases hx : ∃ p ∈ e.wr, p.1 = x
    · rw [valT_app, valT_skip (fun p hp1 hp2 q hq => ?_)] at hc
      · simp only [valT, hTj', if_true] at hc
        cases hf : e.wr.find? (fun p => p.1 == x) with
        | none =>
          obtain ⟨p, hp1, hp2⟩ := hx
          have := List.find?_eq_none.1 hf p hp1
          simp [hp2] at this
        | some p =>
          rw [hf] at hc
          simp only [Option.some.injEq] at hc
          have h1 := List.find?_some hf
          have h2 := List.mem_of_find?_eq_some hf
          simp only [beq_iff_eq] at h1
          have h3 := hpost.wr p h2
          rw [h1, hc] at h3
          exact h3
      · intro he
        obtain ⟨p2, hp3, rfl⟩ := hx
        have h1 := hhi' p hp1 (hhi2 p hp1 hp2)
        have h2 := ((noconf_iff.1 h1).1 p2 hp3).2 q hq
        exact h2 he
    · have hx' : ∀ p ∈ e.wr, p.1 ≠ x := fun p hp he => hx ⟨p, hp, he⟩
      refine hpost.keep x c (hval x c ?_) hx'
      rw [← hc, valT_app, valT_app, valT_push (r := hi) (fun p hp => by have := (hhi p hp).1; omega)]
      refine valT_congr ?_
      simp only [valT, hTj, hTj', Bool.false_eq_true, if_false, if_true]
      rw [find_none hx', valT_push (r := lo) (fun p hp => by have := hgl.idx p hp; omega)]
  · cases hBv : B v with
    | some g =>
      rcases hB v hvl (by rw [hBv]; simp) with h | ⟨p, h1, h2, h3⟩
      · exact .inl h
      · exact .inr ⟨p, h1, List.mem_append.2 (.inl h2), h3⟩
    | none => exact .inr ⟨(j, e), by simp, by simp, hpost.new v hBv hv⟩
end
end Go.Proofs.YthebfmlfgfmlnaaGreatDoor
namespace Go.Proofs.YthebfmlfgfmlnaaGreatDoor
set_option linter.unusedSimpArgs false
set_option linter.unusedVariables false
set_option maxRecDepth 100000
open Go.RowKit
section
variable {P : Program} {ρ : Rho} {vt : List (TypeId × Nat)} {w0 : World} {nt : Nat} {ops : Array Oper} {Q : Exit → Act → World → Prop} {b : Nat → Option AV} {md : Region.Mode}
/-- What holds when all operations are done. -/
def StF (ρ : Rho) (vt : List (TypeId × Nat)) (w0 : World) (nt : Nat) (lk : Nat → Option AV) (nb : Nat) (r : Effs) (a : Act) (w : World) : Prop :=
  ∃ B, Inv vt w0 nt B a w ∧ (∀ x c, lk x = some c → LocH ρ B a w x c) ∧ (∀ v, v < OW → B v ≠ none → v < nb ∨ ∃ p ∈ r, p.2.al = some v)
theorem StT.done {nb : Nat} {r : Effs} {T : List Nat} {a : Act} {w : World} (h : StT ρ vt w0 nt b nb r T a w) (hT : ∀ p ∈ r, p.1 ∈ T) : StF ρ vt w0 nt (lkE b r) nb r a w := by
  obtain ⟨B, h1, h2, h3⟩ := h
  rw [valT_all T r hT] at h2
  exact ⟨B, h1, h2, fun v hl hv => (h3 v hl hv).imp id (fun ⟨p, h, _, e⟩ => ⟨p, h, e⟩)⟩
theorem valT_nil (r : Effs) : valT b [] r = b := by
  induction r with
  | nil => rfl
  | cons p r ih => funext x; obtain ⟨i, e⟩ := p; simp [valT, ih]
theorem StT.start {nb : Nat} {r : Effs} {a : Act} {w : World} {B : Blk} (h1 : Inv vt w0 nt B a w) (h2 : ∀ x c, b x = some c → LocH ρ B a w x c) (h3 : ∀ v, v < OW → B v ≠ none → v < nb) : StT ρ vt w0 nt b nb r [] a w :=
  ⟨B, h1, by rw [valT_nil]; exact h2, fun v hl hv => .inl (h3 v hl hv)⟩
theorem any_sound {nb : Nat} {r : Effs} (hg : Good P ρ vt w0 nt md ops Q b nb r) (hlen : r.length = ops.size) (hdown : ∀ j, j < ops.size → ∀ k ∈ preds md ops j, k < j) {a : Act} {w : World}
    (h : StT ρ vt w0 nt b nb r [] a w) (hQ : ∀ a' w', StF ρ vt w0 nt (lkE b r) nb r a' w' → Q .normal a' w') : wpAny P md ops Q ops.size (Array.replicate ops.size false) a w := by
  have main : ∀ (z : Nat) (T : List Nat) (a' : Act) (w' : World), T.Nodup → (∀ i ∈ T, i < ops.size) → T.length + z = ops.size → Closed md ops T → StT ρ vt w0 nt b nb r T a' w' →
      wpAny P md ops Q z (markAll T (Array.replicate ops.size false)) a' w' := by
    intro z
    induction z with
    | zero =>
      intro T a' w' hTn hT hl hcl hS
      have hall : ∀ i, i < ops.size → i ∈ T := by
        intro i hi
        apply Classical.byContradiction
        intro hni
        have h1 : (i :: T).length ≤ (List.range ops.size).length := len_le (List.nodup_cons.2 ⟨hni, hTn⟩) (fun k hk => by
          rcases List.mem_cons.1 hk with rfl | hk
          · exact List.mem_range.2 hi
          · exact List.mem_range.2 (hT k hk))
        simp at h1; omega
      refine ⟨?_, hQ _ _ (hS.done (fun p hp => hall _ (by have := hg.idx p hp; omega)))⟩
      apply List.eq_nil_iff_forall_not_mem.2
      intro j hj
      obtain ⟨hjs, hj0, _⟩ := ready_preds hj
      rw [markAll_get] at hj0
      simp [hall j hjs, hjs] at hj0
    | succ z ih =>
      intro T a' w' hTn hT hl hcl hS
      have hready : ∀ j ∈ Region.ready md ops (markAll T (Array.replicate ops.size false)), j < ops.size ∧ j ∉ T ∧ ∀ k ∈ preds md ops j, k ∈ T := by
        intro j hj
        obtain ⟨hjs, hj0, hjp⟩ := ready_preds hj
        have hjT : j ∉ T := by
          intro h
          rw [markAll_get] at hj0
          simp [h, hjs] at hj0
        refine ⟨hjs, hjT, fun k hk => ?_⟩
        have h1 := hjp k hk
        rw [markAll_get] at h1
        apply Classical.byContradiction
        intro hkT
        have hkD : k < ops.size := by have := hdown j hjs k hk; omega
        simp [hkT, hkD] at h1
      have hex : ∃ i, i < ops.size ∧ i ∉ T := by
        apply Classical.byContradiction
        intro hno
        have hall : ∀ i ∈ List.range ops.size, i ∈ T := fun i hi => Classical.byContradiction fun h => hno ⟨i, List.mem_range.1 hi, h⟩
        have := len_le List.nodup_range hall
        simp at this; omega
      have hsome : ∃ i ∈ Region.ready md ops (markAll T (Array.replicate ops.size false)), True := by
        have key : ∀ (m i : Nat), i ≤ m → i < ops.size → i ∉ T → ∃ i ∈ Region.ready md ops (markAll T (Array.replicate ops.size false)), True := by
          intro m
          induction m with
          | zero =>
            intro i him hi hiT
            refine ⟨i, mk_ready (by omega) (by rw [markAll_get]; simp [hiT, hi]) (fun k hk => ?_), trivial⟩
            have := hdown i (by omega) k hk
            omega
          | succ m ihm =>
            intro i him hi hiT
            by_cases hall : ∀ k ∈ preds md ops i, k ∈ T
            · refine ⟨i, mk_ready (by omega) (by rw [markAll_get]; simp [hiT, hi]) (fun k hk => ?_), trivial⟩
              have hkD := hT k (hall k hk)
              rw [markAll_get]; simp [hall k hk, hkD]
            · simp only [Classical.not_forall] at hall
              obtain ⟨k, hk, hkT⟩ := hall
              have hki := hdown i (by omega) k hk
              exact ihm k (by omega) (by omega) hkT
        obtain ⟨i, hi, hiT⟩ := hex
        exact key i i (Nat.le_refl _) hi hiT
      refine ⟨fun h => ?_, fun j hj => ?_⟩
      · obtain ⟨i, hi, _⟩ := hsome
        rw [h] at hi; cases hi
      · obtain ⟨hjD, hjT, hjp⟩ := hready j hj
        refine step_any hg (by omega) hcl hjT hjp hS (fun a'' w'' hS' => ?_)
        have e : (markAll T (Array.replicate ops.size false)).setIfInBounds j true = markAll (T ++ [j]) (Array.replicate ops.size false) := by unfold markAll; rw [List.foldl_append]; rfl
        rw [e]
        refine ih (T ++ [j]) a'' w'' ?_ ?_ ?_ ?_ hS'
        · exact List.nodup_append.2 ⟨hTn, by simp, by intro x hx y hy; simp at hy; subst hy; exact fun h => hjT (h ▸ hx)⟩
        · intro i hi
          rcases List.mem_append.1 hi with h | h
          · exact hT i h
          · simp at h; rw [h]; exact hjD
        · simp; omega
        · intro i hi k hk
          rcases List.mem_append.1 hi with h | h
          · exact List.mem_append.2 (.inl (hcl i h k hk))
          · simp at h; subst h; exact List.mem_append.2 (.inl (hjp k hk))
  exact main ops.size [] a w (by simp) (by simp) (by simp) (fun j hj => by cases hj) h
/-- A region that keeps the order of its text. -/
theorem text_sound {nb : Nat} {r : Effs} (hg : Good P ρ vt w0 nt md ops Q b nb r) (hlen : r.length = ops.size) (hdown : ∀ j, j < ops.size → ∀ k ∈ preds md ops j, k < j) {a : Act} {w : World}
    (h : StT ρ vt w0 nt b nb r [] a w) (hQ : ∀ a' w', StF ρ vt w0 nt (lkE b r) nb r a' w' → Q .normal a' w') : wpOps P ops Q (List.range ops.size) a w := by
  have main : ∀ (z j : Nat) (a' : Act) (w' : World), j + z = ops.size → StT ρ vt w0 nt b nb r (List.range j) a' w' → wpOps P ops Q (List.range' j z) a' w' := by
    intro z
    induction z with
    | zero =>
      intro j a' w' hj hS
      simp only [List.range'_zero, wpOps]
      exact hQ _ _ (hS.done (fun p hp => by have := hg.idx p hp; simp; omega))
    | succ z ih =>
      intro j a' w' hj hS
      rw [List.range'_succ, wpOps_cons]
      refine step_any (T := List.range j) hg (by omega) (fun i hi k hk => ?_) (by simp) (fun k hk => ?_) hS (fun a'' w'' hS' => ?_)
      · have h1 := List.mem_range.1 hi
        have := hdown i (by omega) k hk
        exact List.mem_range.2 (by omega)
      · exact List.mem_range.2 (hdown j (by omega) k hk)
      · rw [← List.range_succ] at hS'
        exact ih (j + 1) a'' w'' (by omega) hS'
  have := main ops.size 0 a w (by simp) (by simpa using h)
  rwa [← List.range_eq_range'] at this
end
end Go.Proofs.YthebfmlfgfmlnaaGreatDoor
namespace Go.Proofs.YthebfmlfgfmlnaaGreatDoor
set_option linter.unusedSimpArgs false
set_option linter.unusedVariables false
set_option maxRecDepth 100000
open Go.RowKit
inductive Key where
  | bin (op : BinOp) (t : TypeId)
  | un (op : UnOp)
  | conv (s d : TypeId)
  | len (t : TypeId)
  | idx (t : TypeId)
  | ia (t : TypeId)
  | fa (t : TypeId) (f : Nat)
  | ld (t : TypeId)
  | sl (t : TypeId) (lo hi : Bool)
  | bs (t : TypeId) (n : Nat) (ix : List Nat)
  | app (t : TypeId)
  | frz (r i : Nat)
  deriving DecidableEq
/-- What an operation on unknown values gives: asked of whoever uses it. -/
structure OIns where
  key : Key
  xs : List SV
  r : SV
def locC (v k : Nat) : Nat := (v + 1) * 100000 + k
def aggD : TypeDesc → Bool
  | .struct _ => true
  | .array .. => true
  | _ => false
def aggB (p : Program) (t : TypeId) : Option Bool := (p.underlying t).map aggD
def szB (p : Program) (t : TypeId) : Option Nat := (p.info? t).map (·.size)
def evA (lk : Nat → Option AV) : Operand → Option AV
  | .tmp t => if t < 100000 then lk t else none
  | .const v => (svC v).map .v
  | .func f => some (.v (.one (.fn f)))
  | .global _ => none
def evS (lk : Nat → Option AV) (x : Operand) : Option SV := match evA lk x with | some (.v s) => some s | _ => none
def evL (lk : Nat → Option AV) (x : Operand) : Option Leaf := match evS lk x with | some (.one l) => some l | _ => none
def rdO : Operand → List Nat
  | .tmp t => [t]
  | _ => []
def cellsA (lk : Nat → Option AV) (v : Nat) : Nat → Nat → Option (List Leaf)
  | _, 0 => some []
  | k, n + 1 => match lk (locC v k) with
    | some (.v (.one l)) => (cellsA lk v (k + 1) n).map (l :: ·)
    | _ => none
def locsC (v k n : Nat) : List Nat := (List.range n).map fun j => locC v (k + j)
def SV.leaves : SV → List Leaf
  | .one l => [l]
  | .agg ls => ls
def setR {α : Type} (ls : List α) (off : Nat) : List α → List α
  | [] => ls
  | v :: vs => setR (ls.set off v) (off + 1) vs
def fillA (place : Nat → Option (Nat × Nat)) (ls : List Leaf) : List (Nat × SV) → Option (List Leaf)
  | [] => some ls
  | (i, s) :: rest => match place i with
    | none => none
    | some (off, size) => if s.leaves.length = size ∧ off + s.leaves.length ≤ ls.length then fillA place (setR ls off s.leaves) rest else none
def evParts (lk : Nat → Option AV) : List (Nat × Operand) → Option (List (Nat × SV))
  | [] => some []
  | (i, x) :: r => match evS lk x, evParts lk r with
    | some s, some l => some ((i, s) :: l)
    | _, _ => none
def zeroL (p : Program) (t : TypeId) : Option (List Leaf) := match (p.info? t).bind (·.zero) with | some z => leavesC z.cells.toList | none => none
def placeS (p : Program) (fs : Array Field) (i : Nat) : Option (Nat × Nat) := match fs[i]? with | some f => (szB p f.type).map fun n => (f.offset, n) | none => none
def partA (p : Program) (t : TypeId) (ls : List Leaf) (off : Nat) : Option SV :=
  match aggB p t with
  | some true => match szB p t with
    | some n => if off + n ≤ ls.length then some (.agg ((ls.drop off).take n)) else none
    | none => none
  | some false => (ls[off]?).map .one
  | none => none
def isBoolB (p : Program) (t : TypeId) : Bool := match p.underlying t with | some .bool => true | _ => false
def litBin (bt : Bool) (op : BinOp) (x y : Leaf) : Option Leaf :=
  match x, y with
  | .b a, .b c => if bt then match op with | .eql => some (.b (a == c)) | .neq => some (.b (!(a == c))) | _ => none else none
  | .i k a, .i k' c => if k = k' then match op with
      | .eql => some (.b (decide (a = c))) | .neq => some (.b (!decide (a = c))) | .lss => some (.b (decide (a < c))) | .leq => some (.b (decide (a ≤ c))) | .gtr => some (.b (decide (c < a))) | .geq => some (.b (decide (c ≤ a)))
      | .add => some (.i k (k.wrap (a + c))) | .sub => some (.i k (k.wrap (a - c))) | .mul => some (.i k (k.wrap (a * c)))
      | _ => none else none
  | _, _ => none
def findO (L : List OIns) (k : Key) (xs : List SV) : Option SV := match L.find? (fun o => decide (o.key = k) && decide (o.xs = xs)) with | some o => some o.r | none => none
def idxI (x : Leaf) : Option Nat := match x with | .i _ n => if 0 ≤ n then some n.toNat else none | _ => none
/-- The value of an operation, and the cells that it reads. -/
def pureV (p : Program) (L : List OIns) (lk : Nat → Option AV) (op : Op) : Option (AV × List Nat) :=
  match op with
  | .move x => (evA lk x).map (·, [])
  | .assign x => (evA lk x).map (·, [])
  | .pick c x y => match evL lk c with
    | some (.b true) => (evA lk x).map (·, [])
    | some (.b false) => (evA lk y).map (·, [])
    | _ => none
  | .extract x k => match evA lk x with
    | some (.tup xs) => (xs[k]?).map fun s => (.v s, [])
    | _ => none
  | .load t x => match evL lk x with
    | some (.ptr v o) => match aggB p t with
      | some true => match szB p t with
        | some n => if o + n ≤ 100000 ∧ 0 < n then (cellsA lk v o n).map fun ls => (.v (.agg ls), locsC v o n) else none
        | none => none
      | some false => if o + 1 ≤ 100000 then match cellsA lk v o 1 with
        | some [l] => some (.v (.one l), locsC v o 1)
        | _ => none else none
      | none => none
    | _ => none
  | .fieldAddr s x f => match evL lk x, p.underlying s with
    | some (.ptr v o), some (.struct fs) => match fs[f]? with
      | some fd => match szB p fd.type with
        | some (_ + 1) => some (.v (.one (.ptr v (o + fd.offset))), [])
        | _ => none
      | none => none
    | _, _ => none
  | .indexAddr t x ix => match evL lk x, p.underlying t, evL lk ix with
    | some (.ptr v o), some (.array len e), some l => match idxI l, szB p e with
      | some i, some n => if i < len then some (.v (.one (.ptr v (o + i * n))), []) else none
      | _, _ => none
    | _, _, _ => none
  | .build t parts => match zeroL p t, evParts lk parts.toList, p.underlying t with
    | some z, some ps, some (.struct fs) => if fs.all (fun f => (szB p f.type).isSome) then (fillA (placeS p fs) z ps).map fun ls => (.v (.agg ls), []) else none
    | some z, some ps, some (.array _ e) => match szB p e with
      | some n => (fillA (fun i => some (i * n, n)) z ps).map fun ls => (.v (.agg ls), [])
      | none => none
    | _, _, _ => none
  | .field t x f => match evS lk x, p.underlying t with
    | some (.agg ls), some (.struct fs) => match fs[f]? with
      | some fd => (partA p fd.type ls fd.offset).map fun s => (.v s, [])
      | none => none
    | _, _ => none
  | .index t x ix => match evS lk x, p.underlying t, evL lk ix with
    | some (.agg ls), some (.array len e), some l => match idxI l, szB p e with
      | some i, some n => if i < len then (partA p e ls (i * n)).map fun s => (.v s, []) else none
      | _, _ => none
    | _, _, _ => none
  | .binOp op t x y _ => match evS lk x, evS lk y with
    | some (.one a), some (.one c) => match litBin (isBoolB p t) op a c with
      | some l => some (.v (.one l), [])
      | none => (findO L (.bin op t) [.one a, .one c]).map fun s => (.v s, [])
    | some a, some c => (findO L (.bin op t) [a, c]).map fun s => (.v s, [])
    | _, _ => none
  | .unOp .not _ x => match evL lk x with
    | some (.b c) => some (.v (.one (.b (!c))), [])
    | some l => (findO L (.un .not) [.one l]).map fun s => (.v s, [])
    | none => none
  | .unOp op _ x => match evS lk x with
    | some s => (findO L (.un op) [s]).map fun s => (.v s, [])
    | none => none
  | .convert s d x => match evL lk x, p.underlying s, p.underlying d with
    | some (.i _ n), some (.int _), some (.int k) => some (.v (.one (.i k (k.wrap n))), [])
    | some l, _, _ => (findO L (.conv s d) [.one l]).map fun s => (.v s, [])
    | none, _, _ => (match evS lk x with | some a => (findO L (.conv s d) [a]).map fun s => (.v s, []) | none => none)
  | .call c => match c.callee, c.args.toList, c.argTypes[0]? with
    | .builtin .len, [x], some t => match evS lk x with
      | some a => (findO L (.len t) [a]).map fun s => (.v s, [])
      | none => none
    | _, _, _ => none
  | _ => none
/-- Operations whose answer is asked of whoever uses them. -/
def genO : Op → Option (Key × List Operand)
  | .index t x i => some (.idx t, [x, i])
  | .indexAddr t x i => some (.ia t, [x, i])
  | .fieldAddr t x f => some (.fa t f, [x])
  | .load t x => some (.ld t, [x])
  | .slice t x none none none => some (.sl t false false, [x])
  | .slice t x (some l) none none => some (.sl t true false, [x, l])
  | .slice t x none (some h) none => some (.sl t false true, [x, h])
  | .slice t x (some l) (some h) none => some (.sl t true true, [x, l, h])
  | _ => none
def svsA (lk : Nat → Option AV) : List Operand → Option (List SV)
  | [] => some []
  | x :: xs => match evS lk x, svsA lk xs with
    | some s, some l => some (s :: l)
    | _, _ => none
def nilO (lk : Nat → Option AV) : Op → Option AV
  | .nilCheck x => match evL lk x with
    | some (.ptr v o) => some (.v (.one (.ptr v o)))
    | _ => none
  | _ => none
/-- Reckoned, or asked. -/
def pureA (p : Program) (L : List OIns) (lk : Nat → Option AV) (op : Op) : Option (AV × List Nat) :=
  match pureV p L lk op with
  | some r => some r
  | none => match nilO lk op with
    | some c => some (c, [])
    | none => match genO op with
      | some (k, xs) => match svsA lk xs with
        | some ss => (findO L k ss).map fun s => (.v s, [])
        | none => none
      | none => none
/-- A row that the call itself made. -/
def ownP (ρ : Rho) (r : SV) (w : World) (v : Value) : Prop := match r with
  | .one (.own _ m) => ∃ s, ρ[m]? = some s ∧ s.p w v ∧ ∀ g, s.fp v g → v.ownBlock = some g
  | _ => False
/-- What is asked of such an answer. -/
def OIns.Ok (p : Program) (ρ : Rho) (i : OIns) : Prop := ∀ (B : Blk) (w : World) (vs : List Value), SVsH ρ B w i.xs vs →
  match i.key, vs with
  | .bin op t, [x, y] => ∃ v, i.r.holds ρ B w v ∧ ∀ xo yo, ((do eqGuard op t xo yo x y; binOp op t x y : Sem Value)).run p w = .ok v w
  | .un op, [x] => ∃ v, i.r.holds ρ B w v ∧ (Op.unary op x).run p w = .ok v w
  | .conv s d, [x] => ∃ v, i.r.holds ρ B w v ∧ (convert s d x).run p w = .ok v w
  | .len t, [x] => ∃ v, i.r.holds ρ B w v ∧ ∀ (ts : Array TypeId) ty, ts[0]? = some t → (Builtin.len_ ts ty #[x]).run p w = .ok v w
  | .idx t, [x, y] => ∃ v, i.r.holds ρ B w v ∧ (Instr.index t x y).run p w = .ok v w
  | .ia t, [x, y] => ∃ v, i.r.holds ρ B w v ∧ (Instr.indexAt t x y).run p w = .ok v w
  | .ld t, [x] => ∃ v, i.r.holds ρ B w v ∧ (Instr.loadAt t x).run p w = .ok v w
  | .fa t f, [x] => ∃ v, i.r.holds ρ B w v ∧ (Instr.fieldAt t x f).run p w = .ok v w
  | .sl t false false, [x] => ∃ v, i.r.holds ρ B w v ∧ (Instr.sliceAt t x none none none).run p w = .ok v w
  | .sl t true false, [x, y] => ∃ v, i.r.holds ρ B w v ∧ (Instr.sliceAt t x (some y) none none).run p w = .ok v w
  | .sl t false true, [x, y] => ∃ v, i.r.holds ρ B w v ∧ (Instr.sliceAt t x none (some y) none).run p w = .ok v w
  | .app t, [x, y] => ∀ ty, ∃ v w', (Builtin.append_ #[t, t] ty #[x, y]).run p w = .ok v w' ∧ w.grownBy w' x.ownBlock ∧ (∀ g, v.ownBlock = some g → (x.ownBlock = some g ∨ w.heap.size ≤ g) ∧ g < w'.heap.size ∧ Own w' g) ∧ ownP ρ i.r w' v
  | .frz _ _, [x] => i.r.holds ρ B w x
  | .bs t n ix, vs => BOk B w.heap.size → ∃ v w', i.r.holds ρ B w' v ∧ (Instr.buildSlice t n (ix.zip vs).toArray).run p w = .ok v w' ∧ Below w.heap.size w w'
  | .sl t true true, [x, y, z] => ∃ v, i.r.holds ρ B w v ∧ (Instr.sliceAt t x (some y) (some z) none).run p w = .ok v w
  | _, _ => True
section
variable {ρ : Rho} {L : List OIns} {B : Blk} {a : Act} {w : World} {lk : Nat → Option AV} {x : Operand}
theorem evA_holds {c : AV} (h : ∀ y ∈ rdO x, ∀ c, lk y = some c → LocH ρ B a w y c) (e : evA lk x = some c) : c.holds ρ B w (a.eval x) := by
  cases x with
  | tmp t =>
    simp only [evA] at e
    split at e
    · rename_i ht
      obtain ⟨u, h1, h2⟩ := (by have := h t (by simp [rdO]) c e; unfold LocH at this; rwa [if_pos ht] at this : ∃ u, a.tmps[t]? = some u ∧ c.holds ρ B w u)
      have : a.eval (.tmp t) = u := by simp only [Act.eval, Array.getD_eq_getD_getElem?, h1, Option.getD_some]
      rw [this]; exact h2
    · cases e
  | const v =>
    simp only [evA] at e
    cases h1 : svC v with
    | none => rw [h1] at e; cases e
    | some s => rw [h1] at e; simp at e; subst e; exact svC_holds h1
  | func f => simp only [evA, Option.some.injEq] at e; subst e; rfl
  | global g => simp [evA] at e
theorem evS_holds {s : SV} (h : ∀ y ∈ rdO x, ∀ c, lk y = some c → LocH ρ B a w y c) (e : evS lk x = some s) : s.holds ρ B w (a.eval x) := by
  unfold evS at e
  split at e
  · rename_i s' h1
    injection e with e; subst e
    exact evA_holds h h1
  · cases e
theorem evL_holds {l : Leaf} (h : ∀ y ∈ rdO x, ∀ c, lk y = some c → LocH ρ B a w y c) (e : evL lk x = some l) : l.holds ρ B w (a.eval x) := by
  unfold evL at e
  split at e
  · rename_i s' h1
    injection e with e; subst e
    exact evS_holds h h1
  · cases e
end
end Go.Proofs.YthebfmlfgfmlnaaGreatDoor
namespace Go.Proofs.YthebfmlfgfmlnaaGreatDoor
set_option linter.unusedSimpArgs false
set_option linter.unusedVariables false
set_option maxRecDepth 100000
open Go.RowKit
section
variable {p : Program} {ρ : Rho} {B : Blk} {a : Act} {w : World} {t : TypeId}
theorem run_underlying {d : TypeDesc} (h : p.underlying t = some d) : (underlying t).run p w = .ok d w := by
  simp [underlying, program, Sem.run_bind, Sem.run, h, Result.andThen]
theorem run_info {i : TypeInfo} (h : p.info? t = some i) : (typeInfo t).run p w = .ok i w := by
  simp [typeInfo, program, Sem.run_bind, Sem.run, h, Result.andThen]
theorem run_size {n : Nat} (h : szB p t = some n) : (sizeOf t).run p w = .ok n w := by
  unfold szB at h
  cases hi : p.info? t with
  | none => rw [hi] at h; cases h
  | some i => rw [hi] at h; simp at h; subst h; simp [sizeOf, Sem.run_bind, run_info hi, Result.andThen]
theorem run_agg {b : Bool} (h : aggB p t = some b) : (isAgg t).run p w = .ok b w := by
  unfold aggB at h
  cases hi : p.underlying t with
  | none => rw [hi] at h; cases h
  | some d =>
    rw [hi] at h; simp at h; subst h
    unfold isAgg
    rw [Sem.run_bind, run_underlying hi]
    cases d <;> rfl
theorem run_zeroV {z : Value} (h : (p.info? t).bind (·.zero) = some z) : (zeroValue t).run p w = .ok z w := by
  cases hi : p.info? t with
  | none => rw [hi] at h; cases h
  | some i => rw [hi] at h; simp at h; simp [zeroValue, Sem.run_bind, run_info hi, Result.andThen, h]
theorem run_loadc {ad : Addr} {v : Value} (h : w.cell? ad = some v) : (Go.load ad).run p w = .ok v w := by
  simp [Go.load, Sem.run, h]
theorem add_off (g o k : Nat) : (⟨g, o, none⟩ : Addr).add k = ⟨g, o + k, none⟩ := by
  unfold Addr.add
  split
  · subst_vars; rfl
  · rfl
theorem cell_at {g o : Nat} {cs : Array Value} {ty : TypeId} {fz : Nat × Nat} (h : w.heap[g]? = some (.cells cs ty fz)) : w.cell? ⟨g, o, none⟩ = cs[o]? := by
  simp [World.cell?, h]
theorem run_loadFrom {g o : Nat} {cs : Array Value} {ty : TypeId} (h : w.heap[g]? = some (.cells cs ty (0, 0))) : ∀ (vs : List Value) (i : Nat) (acc : Array Value),
    (∀ k v, vs[k]? = some v → cs[o + (i + k)]? = some v) → (loadCellsFrom ⟨g, o, none⟩ i vs.length acc).run p w = .ok (acc ++ vs.toArray) w
  | [], i, acc, _ => by simp [loadCellsFrom]
  | v :: vs, i, acc, hv => by
    have h1 := hv 0 v rfl
    rw [Nat.add_zero] at h1
    have h2 := run_loadFrom h vs (i + 1) (acc.push v) (fun k u hu => by
      have := hv (k + 1) u (by simpa using hu)
      rwa [show i + (k + 1) = i + 1 + k from by omega] at this)
    simp only [List.length_cons, loadCellsFrom]
    rw [Sem.run_bind, add_off, run_loadc (by rw [cell_at h]; exact h1)]
    simp only [Result.andThen]
    rw [h2]
    simp
theorem locH_cell {v k : Nat} {c : AV} (hk : k < 100000) : LocH ρ B a w (locC v k) c ↔ ∃ g cs ty u, B v = some g ∧ w.heap[g]? = some (.cells cs ty (0, 0)) ∧ cs[k]? = some u ∧ c.holds ρ B w u := by
  unfold LocH locC
  rw [if_neg (by omega), show ((v + 1) * 100000 + k) / 100000 - 1 = v from by omega, show ((v + 1) * 100000 + k) % 100000 = k from by omega]
theorem cellsA_holds {lk : Nat → Option AV} {v : Nat} : ∀ {n k : Nat} {ls : List Leaf}, cellsA lk v k n = some ls → k + n ≤ 100000 → (∀ x ∈ locsC v k n, ∀ c, lk x = some c → LocH ρ B a w x c) →
    ls.length = n ∧ (0 < n → ∃ g cs ty, B v = some g ∧ w.heap[g]? = some (.cells cs ty (0, 0)) ∧ ∃ vs : List Value, LeavesH ρ B w ls vs ∧ ∀ j u, vs[j]? = some u → cs[k + j]? = some u)
  | 0, k, ls, h, _, _ => by simp [cellsA] at h; subst h; exact ⟨rfl, fun h => by omega⟩
  | n + 1, k, ls, h, hk, hx => by
    simp only [cellsA] at h
    split at h
    · rename_i l hl
      cases hr : cellsA lk v (k + 1) n with
      | none => rw [hr] at h; cases h
      | some r =>
        rw [hr] at h; simp at h; subst h
        have h0 := hx (locC v k) (by unfold locsC; simp only [List.mem_map, List.mem_range]; exact ⟨0, by omega, by simp⟩) _ hl
        rw [locH_cell (by omega)] at h0
        obtain ⟨g, cs, ty, u, e1, e2, e3, e4⟩ := h0
        obtain ⟨hlen, hrest⟩ := cellsA_holds hr (by omega) (fun x hx' c hc => hx x (by
          unfold locsC at hx' ⊢
          simp only [List.mem_map, List.mem_range] at hx' ⊢
          obtain ⟨j, hj, rfl⟩ := hx'
          exact ⟨j + 1, by omega, by congr 1; omega⟩) c hc)
        refine ⟨by simp [hlen], fun _ => ⟨g, cs, ty, e1, e2, ?_⟩⟩
        by_cases hn : n = 0
        · subst hn
          have : r = [] := List.eq_nil_of_length_eq_zero hlen
          subst this
          exact ⟨[u], ⟨e4, trivial⟩, fun j x hj => by
            match j with
            | 0 => simp at hj; subst hj; simpa using e3
            | j + 1 => simp at hj⟩
        · obtain ⟨g', cs', ty', f1, f2, vs, f3, f4⟩ := hrest (by omega)
          rw [e1] at f1; injection f1 with f1; subst f1
          rw [e2] at f2; injection f2 with f2; injection f2 with f2 f2' ; subst f2
          exact ⟨u :: vs, ⟨e4, f3⟩, fun j x hj => by
            match j with
            | 0 => simp at hj; subst hj; simpa using e3
            | j + 1 =>
              have := f4 j x (by simpa using hj)
              rwa [show k + 1 + j = k + (j + 1) from by omega] at this⟩
    · cases h
theorem LeavesH.one {l : Leaf} {vs : List Value} (h : LeavesH ρ B w [l] vs) : ∃ v, vs = [v] ∧ l.holds ρ B w v := by
  match vs, h with
  | [v], h => exact ⟨v, rfl, h.1⟩
theorem LeavesH.set : ∀ {ls : List Leaf} {vs : List Value} {k : Nat} {l : Leaf} {v : Value}, LeavesH ρ B w ls vs → l.holds ρ B w v → LeavesH ρ B w (ls.set k l) (vs.set k v)
  | [], [], _, _, _, _, _ => by simp [LeavesH]
  | _ :: _, _ :: _, 0, _, _, h, k => ⟨k, h.2⟩
  | _ :: _, _ :: _, n + 1, _, _, h, k => ⟨h.1, LeavesH.set h.2 k⟩
  | [], _ :: _, _, _, _, h, _ => h.elim
  | _ :: _, [], _, _, _, h, _ => h.elim
theorem LeavesH.setRng : ∀ {ns : List Leaf} {us : List Value} {ls : List Leaf} {vs : List Value} {k : Nat}, LeavesH ρ B w ns us → LeavesH ρ B w ls vs → LeavesH ρ B w (setR ls k ns) (setR vs k us)
  | [], [], _, _, _, _, h => h
  | _ :: _, _ :: _, _, _, _, k, h => by unfold setR; exact LeavesH.setRng k.2 (h.set k.1)
  | [], _ :: _, _, _, _, h, _ => h.elim
  | _ :: _, [], _, _, _, h, _ => h.elim
theorem SV.holds.cells {s : SV} {v : Value} (h : s.holds ρ B w v) : LeavesH ρ B w s.leaves v.cells.toList := by
  cases s with
  | agg ls => obtain ⟨vs, rfl, h⟩ := h; simpa [Value.cells, SV.leaves] using h
  | one l =>
    have hc : v.cells = #[v] := by
      cases l <;> simp only [SV.holds, Leaf.holds] at h
      · subst h; rfl
      · subst h; rfl
      · obtain ⟨g, _, rfl⟩ := h; rfl
      · subst h; rfl
      · obtain ⟨s, _, h, _⟩ := h
        have := (s.fl _ _ h).1
        cases v <;> first | rfl | exact absurd rfl (this _)
      · subst h; rfl
      · subst h; rfl
      · subst h; rfl
      · obtain ⟨s, _, h, _⟩ := h
        have := (s.fl _ _ h).1
        cases v <;> first | rfl | exact absurd rfl (this _)
    rw [hc]
    exact ⟨h, trivial⟩
theorem foldl_zip {cs : Array Value} : ∀ (vs : List Value) (n off : Nat) (cs : Array Value), ((vs.zipIdx n).foldl (fun (cs : Array Value) (x : Value × Nat) => cs.setIfInBounds (off + x.2) x.1) cs).toList = setR cs.toList (off + n) vs
  | [], _, _, _ => rfl
  | v :: vs, n, off, cs => by
    simp only [List.zipIdx_cons, List.foldl_cons]
    rw [foldl_zip (cs := cs) vs (n + 1) off]
    simp [setR, Nat.add_assoc]
theorem fill_holds {place : Nat → Option (Nat × Nat)} : ∀ {ps : List (Nat × SV)} {us : List (Nat × Value)} {z z' : List Leaf} {cells : Array Value}, fillA place z ps = some z' →
    us.map (·.1) = ps.map (·.1) → SVsH ρ B w (ps.map (·.2)) (us.map (·.2)) → LeavesH ρ B w z cells.toList → ∃ out : Array Value, Instr.fill place cells us = some out ∧ LeavesH ρ B w z' out.toList
  | [], [], z, z', cells, h, _, _, hz => by simp [fillA] at h; subst h; exact ⟨cells, rfl, hz⟩
  | (i, s) :: ps, (j, u) :: us, z, z', cells, h, he, hs, hz => by
    simp only [List.map_cons, List.cons.injEq] at he
    obtain ⟨rfl, he⟩ := he
    simp only [fillA] at h
    unfold Instr.fill
    cases hp : place j with
    | none => rw [hp] at h; cases h
    | some x =>
      obtain ⟨off, size⟩ := x
      rw [hp] at h
      simp only at h ⊢
      split at h
      · rename_i hc
        have hcl := hs.1.cells
        have h1 := hcl.len
        have h2 := hz.len
        simp only [Array.length_toList] at h1 h2
        rw [if_neg (by
          simp only [ne_eq, Bool.or_eq_true, decide_eq_true_eq, not_or, Classical.not_not, Nat.not_lt]
          have := hc.1
          have := hc.2
          omega)]
        refine fill_holds h he hs.2 ?_
        have := foldl_zip (cs := cells) u.cells.toList 0 off cells
        rw [Nat.add_zero] at this
        rw [← Array.toList_zipIdx] at this
        simp only [Array.foldl_toList] at this
        rw [this]
        exact LeavesH.setRng hcl hz
      · cases h
  | [], _ :: _, _, _, _, _, he, _, _ => by simp at he
  | _ :: _, [], _, _, _, _, he, _, _ => by simp at he
end
end Go.Proofs.YthebfmlfgfmlnaaGreatDoor
namespace Go.Proofs.YthebfmlfgfmlnaaGreatDoor
set_option linter.unusedSimpArgs false
set_option linter.unusedVariables false
set_option maxRecDepth 100000
open Go.RowKit
section
variable {p : Program} {ρ : Rho} {B : Blk} {a : Act} {w : World} {L : List OIns} {lk : Nat → Option AV} {c : AV} {rd : List Nat} {o : Oper}
/-- What is known of the operands. -/
def KnowsO (ρ : Rho) (B : Blk) (a : Act) (w : World) (lk : Nat → Option AV) (x : Operand) : Prop := ∀ y ∈ rdO x, ∀ c, lk y = some c → LocH ρ B a w y c
def Makes (p : Program) (ρ : Rho) (B : Blk) (a : Act) (w : World) (o : Oper) (c : AV) : Prop := ∃ u, (execOp a.eval o).run p w = .ok (.value u) w ∧ c.holds ρ B w u
theorem evA_k {x : Operand} {c : AV} (h : KnowsO ρ B a w lk x) (e : evA lk x = some c) : c.holds ρ B w (a.eval x) := evA_holds h e
theorem evS_k {x : Operand} {c : SV} (h : KnowsO ρ B a w lk x) (e : evS lk x = some c) : c.holds ρ B w (a.eval x) := evS_holds h e
theorem evL_k {x : Operand} {c : Leaf} (h : KnowsO ρ B a w lk x) (e : evL lk x = some c) : c.holds ρ B w (a.eval x) := evL_holds h e
theorem makes_move {x : Operand} (ho : o.op = .move x ∨ o.op = .assign x) (h : (evA lk x).map (·, ([] : List Nat)) = some (c, rd)) (H : KnowsO ρ B a w lk x) : Makes p ρ B a w o c := by
  cases e : evA lk x with
  | none => rw [e] at h; cases h
  | some d =>
    rw [e] at h; simp at h; obtain ⟨rfl, _⟩ := h
    refine ⟨a.eval x, ?_, evA_k H e⟩
    rcases ho with ho | ho <;> (unfold execOp; rw [ho]; rfl)
theorem makes_pick {k x y : Operand} (ho : o.op = .pick k x y) (h : pureV p L lk (.pick k x y) = some (c, rd)) (Hk : KnowsO ρ B a w lk k) (Hx : KnowsO ρ B a w lk x) (Hy : KnowsO ρ B a w lk y) : Makes p ρ B a w o c := by
  simp only [pureV] at h
  split at h
  · rename_i e0
    have e1 : a.eval k = .bool true := evL_k Hk e0
    cases e : evA lk x with
    | none => rw [e] at h; cases h
    | some d =>
      rw [e] at h; simp at h; obtain ⟨rfl, _⟩ := h
      exact ⟨a.eval x, by unfold execOp; rw [ho]; simp only [e1]; rfl, evA_k Hx e⟩
  · rename_i e0
    have e1 : a.eval k = .bool false := evL_k Hk e0
    cases e : evA lk y with
    | none => rw [e] at h; cases h
    | some d =>
      rw [e] at h; simp at h; obtain ⟨rfl, _⟩ := h
      exact ⟨a.eval y, by unfold execOp; rw [ho]; simp only [e1]; rfl, evA_k Hy e⟩
  · cases h
theorem makes_extract {x : Operand} {k : Nat} (ho : o.op = .extract x k) (h : pureV p L lk (.extract x k) = some (c, rd)) (H : KnowsO ρ B a w lk x) : Makes p ρ B a w o c := by
  simp only [pureV] at h
  split at h
  · rename_i xs e
    obtain ⟨vs, e1, e2⟩ := (evA_k H e : AV.holds ρ B w (.tup xs) (a.eval x))
    cases e3 : xs[k]? with
    | none => rw [e3] at h; cases h
    | some s =>
      rw [e3] at h; simp at h; obtain ⟨rfl, _⟩ := h
      obtain ⟨v, h1, h2⟩ := e2.get e3
      refine ⟨v, ?_, h2⟩
      unfold execOp; rw [ho]
      simp [e1, Instr.extract, h1, Sem.run_bind, Result.andThen]
  · cases h
/-- A variable is read. -/
theorem load_var {t : TypeId} {x : Operand} (h : pureV p L lk (.load t x) = some (c, rd)) (H : KnowsO ρ B a w lk x) (H2 : ∀ y ∈ rd, ∀ c, lk y = some c → LocH ρ B a w y c) :
    ∃ ad u, a.eval x = .pointer (some ad) ∧ (loadVar t ad).run p w = .ok u w ∧ c.holds ρ B w u := by
  simp only [pureV] at h
  split at h
  · rename_i v off e
    obtain ⟨g, hg, e1⟩ := (evL_k H e : Leaf.holds ρ B w (.ptr v off) (a.eval x))
    refine ⟨⟨g, off, none⟩, ?_⟩
    split at h
    · rename_i hagg
      split at h
      · rename_i n hn
        split at h
        · rename_i hle
          cases e3 : cellsA lk v off n with
          | none => rw [e3] at h; cases h
          | some ls =>
            rw [e3] at h; simp at h; obtain ⟨rfl, rfl⟩ := h
            obtain ⟨hlen, hrest⟩ := cellsA_holds (a := a) e3 hle.1 H2
            obtain ⟨g', cs, ty, f1, f2, vs, f3, f4⟩ := hrest hle.2
            rw [hg] at f1; injection f1 with f1; subst f1
            refine ⟨.agg vs.toArray, e1, ?_, vs, rfl, f3⟩
            have hl : vs.length = n := by rw [f3.len, hlen]
            have := run_loadFrom (p := p) (o := off) f2 vs 0 #[] (fun k u hu => by rw [Nat.zero_add]; exact f4 k u hu)
            rw [hl] at this
            simp [loadVar, loadCells, Sem.run_bind, run_agg hagg, run_size hn, this, Result.andThen]
        · cases h
      · cases h
    · rename_i hagg
      split at h
      · rename_i hle
        split at h
        · rename_i l e3
          simp at h; obtain ⟨rfl, rfl⟩ := h
          obtain ⟨hlen, hrest⟩ := cellsA_holds (a := a) e3 hle H2
          obtain ⟨g', cs, ty, f1, f2, vs, f3, f4⟩ := hrest (by decide)
          rw [hg] at f1; injection f1 with f1; subst f1
          obtain ⟨u, rfl, hu⟩ := f3.one
          refine ⟨u, e1, ?_, hu⟩
          have := run_loadc (p := p) (ad := ⟨g, off, none⟩) (v := u) (by rw [cell_at f2]; exact f4 0 u rfl)
          simp [loadVar, Sem.run_bind, run_agg hagg, this, Result.andThen]
        · cases h
      · cases h
    · cases h
  · cases h
theorem makes_load {t : TypeId} {x : Operand} (ho : o.op = .load t x) (h : pureV p L lk (.load t x) = some (c, rd)) (H : KnowsO ρ B a w lk x) (H2 : ∀ y ∈ rd, ∀ c, lk y = some c → LocH ρ B a w y c) : Makes p ρ B a w o c := by
  obtain ⟨ad, u, e1, e2, e3⟩ := load_var h H H2
  refine ⟨u, ?_, e3⟩
  unfold execOp; rw [ho]
  simp [e1, Instr.loadAt, Instr.sureAddr, Sem.run_bind, e2, Result.andThen]
theorem makes_fieldAddr {t : TypeId} {x : Operand} {f : Nat} (ho : o.op = .fieldAddr t x f) (h : pureV p L lk (.fieldAddr t x f) = some (c, rd)) (H : KnowsO ρ B a w lk x) : Makes p ρ B a w o c := by
  simp only [pureV] at h
  split at h
  · rename_i v off fs e hu
    obtain ⟨g, hg, e1⟩ := (evL_k H e : Leaf.holds ρ B w (.ptr v off) (a.eval x))
    split at h
    · rename_i fd hf
      split at h
      · rename_i n hn
        simp at h; obtain ⟨rfl, rfl⟩ := h
        refine ⟨_, ?_, g, hg, rfl⟩
        unfold execOp; rw [ho]
        simp [e1, Instr.fieldAt, Instr.sureAddr, fieldPlace, Sem.run_bind, run_underlying hu, hf, run_size hn, Result.andThen, add_off]
      · cases h
    · cases h
  · cases h
theorem idxI_holds {l : Leaf} {i : Nat} {v : Value} (h : idxI l = some i) (hl : l.holds ρ B w v) : ∃ k, v = .int k (i : Int) := by
  unfold idxI at h
  split at h
  · rename_i k n
    split at h
    · rename_i hn
      simp at h; subst h
      exact ⟨k, by rw [show v = .int k n from hl, Int.toNat_of_nonneg hn]⟩
    · cases h
  · cases h
theorem makes_indexAddr {t : TypeId} {x ix : Operand} (ho : o.op = .indexAddr t x ix) (h : pureV p L lk (.indexAddr t x ix) = some (c, rd)) (H : KnowsO ρ B a w lk x) (Hi : KnowsO ρ B a w lk ix) : Makes p ρ B a w o c := by
  simp only [pureV] at h
  split at h
  · rename_i v off len e l h1 hu h3
    obtain ⟨g, hg, e1⟩ := (evL_k H h1 : Leaf.holds ρ B w (.ptr v off) (a.eval x))
    split at h
    · rename_i i n hi hn
      obtain ⟨k, e2⟩ := idxI_holds hi (evL_k Hi h3)
      split at h
      · rename_i hlt
        simp at h; obtain ⟨rfl, rfl⟩ := h
        refine ⟨_, ?_, g, hg, rfl⟩
        unfold execOp; rw [ho]
        simp [e1, e2, Instr.indexAt, Instr.sureAddr, asIntOf, Sem.run_bind, run_underlying hu, run_size hn, Result.andThen, add_off, hlt]
      · cases h
    · cases h
  · cases h
theorem part_holds {t : TypeId} {ls : List Leaf} {off : Nat} {s : SV} {cs : Array Value} (h : partA p t ls off = some s) (hc : LeavesH ρ B w ls cs.toList) : ∃ v, (part t cs off).run p w = .ok v w ∧ s.holds ρ B w v := by
  unfold partA at h
  split at h
  · rename_i hagg
    split at h
    · rename_i n hn
      split at h
      · rename_i hle
        simp at h; subst h
        refine ⟨.agg (cs.extract off (off + n)), by unfold part; rw [Sem.run_bind, run_agg hagg]; simp only [Result.andThen, if_true, Sem.run_bind, run_size hn, Sem.run_pure], (cs.extract off (off + n)).toList, by rw [Array.toArray_toList], ?_⟩
        have hlen := hc.len
        refine LeavesH.mk ?_ (fun k l v hk hv => ?_)
        · simp only [Array.length_toList, Array.size_extract, List.length_take, List.length_drop] at hlen ⊢; omega
        · have hkn : k < n := by
            rw [List.getElem?_take] at hk
            by_cases h : k < n
            · exact h
            · rw [if_neg h] at hk; cases hk
          rw [List.getElem?_take, if_pos hkn, List.getElem?_drop] at hk
          obtain ⟨u, h1, h2⟩ := hc.get hk
          have : v = u := by
            have hv' : (cs.extract off (off + n))[k]? = some v := by rw [← Array.getElem?_toList]; exact hv
            rw [Array.getElem?_extract] at hv'
            simp only [Array.getElem?_toList] at h1
            split at hv'
            · rw [h1] at hv'; injection hv' with e; exact e.symm
            · cases hv'
          rw [this]; exact h2
      · cases h
    · cases h
  · rename_i hagg
    cases hl : ls[off]? with
    | none => rw [hl] at h; cases h
    | some l =>
      rw [hl] at h; simp at h; subst h
      obtain ⟨u, h1, h2⟩ := hc.get hl
      refine ⟨u, ?_, h2⟩
      simp only [Array.getElem?_toList] at h1
      simp [part, Sem.run_bind, run_agg hagg, Result.andThen, h1]
  · cases h
theorem makes_field {t : TypeId} {x : Operand} {f : Nat} (ho : o.op = .field t x f) (h : pureV p L lk (.field t x f) = some (c, rd)) (H : KnowsO ρ B a w lk x) : Makes p ρ B a w o c := by
  simp only [pureV] at h
  split at h
  · rename_i ls fs h1 hu
    obtain ⟨vs, e1, e2⟩ := (evS_k H h1 : SV.holds ρ B w (.agg ls) (a.eval x))
    split at h
    · rename_i fd hf
      cases hp : partA p fd.type ls fd.offset with
      | none => rw [hp] at h; cases h
      | some s =>
        rw [hp] at h; simp at h; obtain ⟨rfl, rfl⟩ := h
        obtain ⟨v, h2, h3⟩ := part_holds (cs := vs.toArray) hp (by simpa using e2)
        refine ⟨v, ?_, h3⟩
        unfold execOp; rw [ho]
        simp [e1, Instr.field, asAgg, Sem.run_bind, run_underlying hu, hf, h2, Result.andThen]
    · cases h
  · cases h
theorem makes_index {t : TypeId} {x ix : Operand} (ho : o.op = .index t x ix) (h : pureV p L lk (.index t x ix) = some (c, rd)) (H : KnowsO ρ B a w lk x) (Hi : KnowsO ρ B a w lk ix) : Makes p ρ B a w o c := by
  simp only [pureV] at h
  split at h
  · rename_i ls len e l h1 hu h3
    obtain ⟨vs, e1, e2⟩ := (evS_k H h1 : SV.holds ρ B w (.agg ls) (a.eval x))
    split at h
    · rename_i i n hi hn
      obtain ⟨k, e3⟩ := idxI_holds hi (evL_k Hi h3)
      split at h
      · rename_i hlt
        cases hp : partA p e ls (i * n) with
        | none => rw [hp] at h; cases h
        | some s =>
          rw [hp] at h; simp at h; obtain ⟨rfl, rfl⟩ := h
          obtain ⟨v, h4, h5⟩ := part_holds (cs := vs.toArray) hp (by simpa using e2)
          refine ⟨v, ?_, h5⟩
          unfold execOp; rw [ho]
          simp [e1, e3, Instr.index, asIntOf, Sem.run_bind, run_underlying hu, run_size hn, h4, Result.andThen, hlt]
      · cases h
    · cases h
  · cases h
end
end Go.Proofs.YthebfmlfgfmlnaaGreatDoor
