/- The plain law of fractions: what they stand for (rational numbers), and the laws of a field, of the order, of Lerp and of Floor. The plain law of vectors of fractions. The plain law of rotations, in rational numbers: quaternions up to a factor, and how they turn vectors. The plain law of rotations, in fractions. The plain law of rotations: images, ways, from one vector to another. How large the parts of vectors and rotations become. Arms, facts about the examples, Same. Rows of fractions in memory: vectors, quaternions, arrays of fractions. An executor: fractions and rows of fractions. An executor: what the functions of package fraction and of the reference give. -/
import Derived.Test.YthebfmlfgfmlnaaGreatDoorP10
namespace Go.Proofs.YthebfmlfgfmlnaaGreatDoor
set_option linter.unusedSimpArgs false
set_option linter.unusedVariables false
set_option maxRecDepth 100000
open Go Go.Proofs
/-- The number that a fraction stands for. -/
def Fq.sg (s : Bool) (m : Nat) : Int := if s then -(m : Int) else m
def Fq.v (x : Fq) : Rat := mkRat (Fq.sg x.s x.p) x.q
theorem low_v {s : Bool} {m n : Nat} (h : n ≠ 0) : (Fq.low s m n).v = mkRat (Fq.sg s m) n := by
  unfold Fq.v Fq.low
  simp only
  have hg : 0 < Nat.gcd m n := Nat.gcd_pos_of_pos_right _ (Nat.pos_of_ne_zero h)
  have h1 : Nat.gcd m n * lowP m n = m := Nat.mul_div_cancel' (Nat.gcd_dvd_left _ _)
  have h2 : Nat.gcd m n * lowQ m n = n := Nat.mul_div_cancel' (Nat.gcd_dvd_right _ _)
  have h3 : lowQ m n ≠ 0 := by intro h3; rw [h3, Nat.mul_zero] at h2; exact h h2.symm
  rw [Rat.mkRat_eq_iff h3 h]
  have hs : Fq.sg (lowS s m) (lowP m n) = Fq.sg s (lowP m n) := by
    unfold lowS Fq.sg
    by_cases hm : m = 0
    · subst hm; simp [lowP]
    · simp [hm]
  rw [hs]
  generalize hP : lowP m n = P at *
  generalize hQ : lowQ m n = R at *
  generalize Nat.gcd m n = g at *
  subst h1; subst h2
  unfold Fq.sg
  cases s <;> simp only [Bool.false_eq_true, if_true, if_false] <;> grind
theorem low_valid {s : Bool} {m n : Nat} (h : n ≠ 0) : (Fq.low s m n).valid = true := by
  unfold Fq.valid
  have hg : 0 < Nat.gcd m n := Nat.gcd_pos_of_pos_right _ (Nat.pos_of_ne_zero h)
  have h1 : Nat.gcd m n * lowP m n = m := Nat.mul_div_cancel' (Nat.gcd_dvd_left _ _)
  have h2 : Nat.gcd m n * lowQ m n = n := Nat.mul_div_cancel' (Nat.gcd_dvd_right _ _)
  refine decide_eq_true ⟨?_, ?_, ?_⟩
  · show lowQ m n ≠ 0
    intro h3; rw [h3, Nat.mul_zero] at h2; exact h h2.symm
  · show ¬(lowS s m = true ∧ lowP m n = 0)
    rintro ⟨h3, h4⟩
    rw [h4, Nat.mul_zero] at h1
    rw [← h1] at h3; simp [lowS] at h3
  · exact Nat.coprime_div_gcd_div_gcd hg
theorem Fq.valid.n {x : Fq} (h : x.valid = true) : x.q ≠ 0 := (of_decide_eq_true h).1
theorem Fq.valid.s {x : Fq} (h : x.valid = true) : ¬(x.s = true ∧ x.p = 0) := (of_decide_eq_true h).2.1
theorem Fq.valid.g {x : Fq} (h : x.valid = true) : Nat.gcd x.p x.q = 1 := (of_decide_eq_true h).2.2
theorem sg_abs (s : Bool) (m : Nat) : (Fq.sg s m).natAbs = m := by unfold Fq.sg; cases s <;> simp
theorem sg_neg {s : Bool} {m : Nat} (h : ¬(s = true ∧ m = 0)) : decide (Fq.sg s m < 0) = s := by
  unfold Fq.sg
  cases s
  · simp
  · simp at h ⊢; omega
theorem v_num {x : Fq} (h : x.valid = true) : x.v.num = Fq.sg x.s x.p ∧ x.v.den = x.q := by
  have hn := Fq.valid.n h
  have hc : (Fq.sg x.s x.p).natAbs.Coprime x.q := by rw [sg_abs]; exact Fq.valid.g h
  have e : x.v = Rat.mk' (Fq.sg x.s x.p) x.q hn hc := (Rat.mk_eq_mkRat _ _ hn hc).symm
  rw [e]; exact ⟨rfl, rfl⟩
/-- Valid fractions of one value are one. -/
theorem v_inj {x y : Fq} (hx : x.valid = true) (hy : y.valid = true) (h : x.v = y.v) : x = y := by
  obtain ⟨a1, a2⟩ := v_num hx
  obtain ⟨b1, b2⟩ := v_num hy
  rw [h] at a1 a2
  have e1 : Fq.sg x.s x.p = Fq.sg y.s y.p := a1.symm.trans b1
  have ep : x.p = y.p := by rw [← sg_abs x.s x.p, e1, sg_abs]
  have es : x.s = y.s := by rw [← sg_neg (Fq.valid.s hx), e1, sg_neg (Fq.valid.s hy)]
  have eq : x.q = y.q := a2.symm.trans b2
  cases x; cases y; simp only at *; subst ep; subst es; subst eq; rfl
theorem sg_add (s s' : Bool) (X Y : Nat) : Fq.sg (addG s s' X Y) (addM s s' X Y) = Fq.sg s X + Fq.sg s' Y := by
  unfold Fq.sg addG addM
  by_cases h : s = s'
  · subst h; simp only [if_true]; cases s <;> simp <;> omega
  · simp only [h, if_false]
    by_cases hl : Y ≤ X
    · simp only [hl, if_true]; cases s <;> cases s' <;> simp at h ⊢ <;> omega
    · simp only [hl, if_false]; cases s <;> cases s' <;> simp at h ⊢ <;> omega
theorem sg_mul (s s' : Bool) (X Y : Nat) : Fq.sg (s != s') (X * Y) = Fq.sg s X * Fq.sg s' Y := by
  unfold Fq.sg
  cases s <;> cases s' <;> simp <;> grind
theorem sg_mulN (s : Bool) (X Y : Nat) : Fq.sg s (X * Y) = Fq.sg s X * (Y : Int) := by
  unfold Fq.sg
  cases s <;> simp <;> grind
theorem v_add {x y : Fq} (hx : x.q ≠ 0) (hy : y.q ≠ 0) : (x.add y).v = x.v + y.v := by
  unfold Fq.add
  rw [low_v (Nat.mul_ne_zero hx hy), sg_add, sg_mulN, sg_mulN]
  unfold Fq.v
  rw [Rat.mkRat_add_mkRat _ _ hx hy]
theorem v_mul {x y : Fq} (hx : x.q ≠ 0) (hy : y.q ≠ 0) : (x.mul y).v = x.v * y.v := by
  unfold Fq.mul
  rw [low_v (Nat.mul_ne_zero hx hy), sg_mul]
  unfold Fq.v
  rw [Rat.mkRat_mul_mkRat]
theorem v_neg {x : Fq} : x.neg.v = -x.v := by
  unfold Fq.neg Fq.v
  simp only
  rw [Rat.neg_mkRat]
  congr 1
  unfold Fq.sg lowS
  by_cases h : x.p = 0
  · rw [h]; simp
  · simp only [h, decide_false, Bool.not_false, Bool.and_true]; cases x.s <;> simp
theorem neg_valid {x : Fq} (h : x.valid = true) : x.neg.valid = true := by
  have h1 := Fq.valid.n h
  have h2 := Fq.valid.g h
  refine decide_eq_true ⟨h1, ?_, h2⟩
  show ¬(lowS (!x.s) x.p = true ∧ x.p = 0)
  rintro ⟨h1, h2⟩; rw [h2] at h1; simp [lowS] at h1
theorem v_sub {x y : Fq} (hx : x.q ≠ 0) (hy : y.q ≠ 0) : (x.sub y).v = x.v - y.v := by
  unfold Fq.sub
  rw [v_add hx (show y.neg.q ≠ 0 from hy), v_neg, Rat.sub_eq_add_neg]
theorem v_eq0 {x : Fq} (hx : x.q ≠ 0) : x.v = 0 ↔ x.p = 0 := by
  unfold Fq.v
  rw [Rat.mkRat_eq_zero hx]
  have := sg_abs x.s x.p
  constructor <;> intro h
  · rw [h] at this; exact this.symm
  · unfold Fq.sg; rw [h]; simp
theorem v_div {x y : Fq} (hx : x.q ≠ 0) (hy : y.q ≠ 0) (h0 : y.p ≠ 0) : (x.div y).v = x.v / y.v := by
  have hne : y.v ≠ 0 := fun h => h0 ((v_eq0 hy).1 h)
  have hm : (x.div y).v * y.v = x.v := by
    unfold Fq.div
    rw [low_v (Nat.mul_ne_zero hx h0)]
    unfold Fq.v
    rw [Rat.mkRat_mul_mkRat, Rat.mkRat_eq_iff (Nat.mul_ne_zero (Nat.mul_ne_zero hx h0) hy) hx]
    unfold Fq.sg
    cases x.s <;> cases y.s <;> simp <;> grind
  rw [← hm, Rat.div_def, Rat.mul_assoc, Rat.mul_inv_cancel _ hne, Rat.mul_one]
theorem v_ofInt (n : Int) : (Fq.ofInt n).v = (n : Rat) := by
  unfold Fq.ofInt Fq.v
  simp only
  rw [Rat.mkRat_one]
  congr 1
  unfold Fq.sg
  by_cases h : n < 0
  · simp [h]; omega
  · simp [h]; omega
theorem ofInt_valid (n : Int) : (Fq.ofInt n).valid = true := by
  refine decide_eq_true ⟨Nat.one_ne_zero, ?_, Nat.gcd_one_right _⟩
  show ¬(decide (n < 0) = true ∧ n.natAbs = 0)
  rintro ⟨h1, h2⟩; have := of_decide_eq_true h1; omega
theorem sgn_cases {x : Fq} (hx : x.valid = true) : (x.v < 0 ∧ x.sgn = -1) ∨ (x.v = 0 ∧ x.sgn = 0) ∨ (0 < x.v ∧ x.sgn = 1) := by
  have hn := (v_num hx).1
  have h0 := v_eq0 (Fq.valid.n hx)
  have hs := Fq.valid.s hx
  by_cases hp : x.p = 0
  · exact Or.inr (Or.inl ⟨h0.2 hp, by unfold Fq.sgn; rw [if_pos hp]⟩)
  · have hne : x.v ≠ 0 := fun h => hp (h0.1 h)
    rcases Bool.eq_false_or_eq_true x.s with h | h
    · refine Or.inl ⟨?_, by unfold Fq.sgn; rw [if_neg hp, if_pos h]⟩
      have h1 : ¬ (0 ≤ x.v) := by rw [← Rat.num_nonneg, hn, h]; unfold Fq.sg; simp; omega
      exact Rat.not_le.1 h1
    · refine Or.inr (Or.inr ⟨?_, by unfold Fq.sgn; rw [if_neg hp, h]; rfl⟩)
      have h1 : 0 ≤ x.v := by rw [← Rat.num_nonneg, hn, h]; unfold Fq.sg; simp
      grind
theorem add_valid {x y : Fq} (hx : x.valid = true) (hy : y.valid = true) : (x.add y).valid = true := low_valid (Nat.mul_ne_zero (Fq.valid.n hx) (Fq.valid.n hy))
theorem mul_valid {x y : Fq} (hx : x.valid = true) (hy : y.valid = true) : (x.mul y).valid = true := low_valid (Nat.mul_ne_zero (Fq.valid.n hx) (Fq.valid.n hy))
theorem sub_valid {x y : Fq} (hx : x.valid = true) (hy : y.valid = true) : (x.sub y).valid = true := add_valid hx (neg_valid hy)
theorem div_valid {x y : Fq} (hx : x.valid = true) (h0 : y.p ≠ 0) : (x.div y).valid = true := low_valid (Nat.mul_ne_zero (Fq.valid.n hx) h0)
theorem v_a {x y : Fq} (hx : x.valid = true) (hy : y.valid = true) : (x.add y).v = x.v + y.v := v_add (Fq.valid.n hx) (Fq.valid.n hy)
theorem v_m {x y : Fq} (hx : x.valid = true) (hy : y.valid = true) : (x.mul y).v = x.v * y.v := v_mul (Fq.valid.n hx) (Fq.valid.n hy)
theorem v_s {x y : Fq} (hx : x.valid = true) (hy : y.valid = true) : (x.sub y).v = x.v - y.v := v_sub (Fq.valid.n hx) (Fq.valid.n hy)
theorem cmp_cases {x y : Fq} (hx : x.valid = true) (hy : y.valid = true) : (x.v < y.v ∧ x.cmp y = -1) ∨ (x.v = y.v ∧ x.cmp y = 0) ∨ (y.v < x.v ∧ x.cmp y = 1) := by
  unfold Fq.cmp
  rcases sgn_cases (sub_valid hx hy) with ⟨h1, h2⟩ | ⟨h1, h2⟩ | ⟨h1, h2⟩ <;> rw [v_s hx hy] at h1
  · exact Or.inl ⟨by grind, h2⟩
  · exact Or.inr (Or.inl ⟨by grind, h2⟩)
  · exact Or.inr (Or.inr ⟨by grind, h2⟩)
section
variable {a b c t : Fq} (ha : a.valid = true) (hb : b.valid = true) (hc : c.valid = true) (ht : t.valid = true)
include ha hb
include hc
end
section
variable {a b t : Fq} (ha : a.valid = true) (hb : b.valid = true) (ht : t.valid = true)
include ha
include hb
theorem o_zero : a.cmp b = 0 ↔ a = b := by
  constructor
  · intro h; rcases cmp_cases ha hb with ⟨p1, p2⟩ | ⟨p1, p2⟩ | ⟨p1, p2⟩ <;> first | omega | exact v_inj ha hb p1
  · rintro rfl; rcases cmp_cases ha hb with ⟨p1, p2⟩ | ⟨p1, p2⟩ | ⟨p1, p2⟩ <;> first | exact p2 | grind
include ht
end
end Go.Proofs.YthebfmlfgfmlnaaGreatDoor
namespace Go.Proofs.YthebfmlfgfmlnaaGreatDoor
set_option linter.unusedSimpArgs false
set_option linter.unusedVariables false
set_option maxRecDepth 100000
open Go.RowKit
/-- A vector of fractions. -/
structure Vq where
  x : Fq
  y : Fq
  z : Fq
def Vq.add (a b : Vq) : Vq := ⟨a.x.add b.x, a.y.add b.y, a.z.add b.z⟩
def Vq.sub (a b : Vq) : Vq := ⟨a.x.sub b.x, a.y.sub b.y, a.z.sub b.z⟩
def Vq.scale (a : Vq) (k : Fq) : Vq := ⟨a.x.mul k, a.y.mul k, a.z.mul k⟩
def Vq.dot (a b : Vq) : Fq := (a.x.mul b.x).add ((a.y.mul b.y).add (a.z.mul b.z))
def Vq.cross (a b : Vq) : Vq := ⟨(a.y.mul b.z).sub (a.z.mul b.y), (a.z.mul b.x).sub (a.x.mul b.z), (a.x.mul b.y).sub (a.y.mul b.x)⟩
def Vq.lerp (a b : Vq) (t : Fq) : Vq := a.add ((b.sub a).scale t)
def Vq.of (x y z : Int) : Vq := ⟨.ofInt x, .ofInt y, .ofInt z⟩
structure Vq.good (a : Vq) : Prop where
  x : a.x.valid = true
  y : a.y.valid = true
  z : a.z.valid = true
section
variable {a b c : Vq} {k t : Fq}
theorem Vq.good.add (ha : a.good) (hb : b.good) : (a.add b).good := ⟨add_valid ha.x hb.x, add_valid ha.y hb.y, add_valid ha.z hb.z⟩
theorem Vq.good.sub (ha : a.good) (hb : b.good) : (a.sub b).good := ⟨sub_valid ha.x hb.x, sub_valid ha.y hb.y, sub_valid ha.z hb.z⟩
theorem Vq.good.scale (ha : a.good) (hk : k.valid = true) : (a.scale k).good := ⟨mul_valid ha.x hk, mul_valid ha.y hk, mul_valid ha.z hk⟩
theorem Vq.good.cross (ha : a.good) (hb : b.good) : (a.cross b).good := ⟨sub_valid (mul_valid ha.y hb.z) (mul_valid ha.z hb.y), sub_valid (mul_valid ha.z hb.x) (mul_valid ha.x hb.z), sub_valid (mul_valid ha.x hb.y) (mul_valid ha.y hb.x)⟩
theorem Vq.good.lerp (ha : a.good) (hb : b.good) (ht : t.valid = true) : (a.lerp b t).good := ha.add ((hb.sub ha).scale ht)
theorem Vq.good.of (x y z : Int) : (Vq.of x y z).good := ⟨ofInt_valid x, ofInt_valid y, ofInt_valid z⟩
theorem dot_valid (ha : a.good) (hb : b.good) : (a.dot b).valid = true := add_valid (mul_valid ha.x hb.x) (add_valid (mul_valid ha.y hb.y) (mul_valid ha.z hb.z))
theorem dot_v (ha : a.good) (hb : b.good) : (a.dot b).v = a.x.v * b.x.v + (a.y.v * b.y.v + a.z.v * b.z.v) := by
  unfold Vq.dot
  rw [v_a (mul_valid ha.x hb.x) (add_valid (mul_valid ha.y hb.y) (mul_valid ha.z hb.z)), v_a (mul_valid ha.y hb.y) (mul_valid ha.z hb.z), v_m ha.x hb.x, v_m ha.y hb.y, v_m ha.z hb.z]
theorem add_v (ha : a.good) (hb : b.good) : (a.add b).x.v = a.x.v + b.x.v ∧ (a.add b).y.v = a.y.v + b.y.v ∧ (a.add b).z.v = a.z.v + b.z.v := ⟨v_a ha.x hb.x, v_a ha.y hb.y, v_a ha.z hb.z⟩
theorem sub_v (ha : a.good) (hb : b.good) : (a.sub b).x.v = a.x.v - b.x.v ∧ (a.sub b).y.v = a.y.v - b.y.v ∧ (a.sub b).z.v = a.z.v - b.z.v := ⟨v_s ha.x hb.x, v_s ha.y hb.y, v_s ha.z hb.z⟩
theorem scale_v (ha : a.good) (hk : k.valid = true) : (a.scale k).x.v = a.x.v * k.v ∧ (a.scale k).y.v = a.y.v * k.v ∧ (a.scale k).z.v = a.z.v * k.v := ⟨v_m ha.x hk, v_m ha.y hk, v_m ha.z hk⟩
theorem cross_v (ha : a.good) (hb : b.good) : (a.cross b).x.v = a.y.v * b.z.v - a.z.v * b.y.v ∧ (a.cross b).y.v = a.z.v * b.x.v - a.x.v * b.z.v ∧ (a.cross b).z.v = a.x.v * b.y.v - a.y.v * b.x.v := by
  unfold Vq.cross
  refine ⟨?_, ?_, ?_⟩
  · rw [v_s (mul_valid ha.y hb.z) (mul_valid ha.z hb.y), v_m ha.y hb.z, v_m ha.z hb.y]
  · rw [v_s (mul_valid ha.z hb.x) (mul_valid ha.x hb.z), v_m ha.z hb.x, v_m ha.x hb.z]
  · rw [v_s (mul_valid ha.x hb.y) (mul_valid ha.y hb.x), v_m ha.x hb.y, v_m ha.y hb.x]
theorem of_v (x y z : Int) : (Vq.of x y z).x.v = (x : Rat) ∧ (Vq.of x y z).y.v = (y : Rat) ∧ (Vq.of x y z).z.v = (z : Rat) := ⟨v_ofInt x, v_ofInt y, v_ofInt z⟩
theorem Vq.inj (ha : a.good) (hb : b.good) (hx : a.x.v = b.x.v) (hy : a.y.v = b.y.v) (hz : a.z.v = b.z.v) : a = b := by
  have e1 := v_inj ha.x hb.x hx
  have e2 := v_inj ha.y hb.y hy
  have e3 := v_inj ha.z hb.z hz
  cases a; cases b; simp only at e1 e2 e3; subst e1; subst e2; subst e3; rfl
-- a vector space
theorem s_comm (ha : a.good) (hb : b.good) : a.add b = b.add a := by
  have h1 := add_v ha hb; have h2 := add_v hb ha
  exact Vq.inj (ha.add hb) (hb.add ha) (by grind) (by grind) (by grind)
theorem s_back (ha : a.good) (hb : b.good) : (a.add b).sub b = a := by
  have h1 := add_v ha hb; have h2 := sub_v (ha.add hb) hb
  exact Vq.inj ((ha.add hb).sub hb) ha (by grind) (by grind) (by grind)
theorem s_zero (ha : a.good) : a.add (Vq.of 0 0 0) = a := by
  have h1 := add_v ha (Vq.good.of 0 0 0); have h2 := of_v 0 0 0
  exact Vq.inj (ha.add (Vq.good.of 0 0 0)) ha (by grind) (by grind) (by grind)
theorem s_assoc (ha : a.good) (hb : b.good) (hc : c.good) : (a.add b).add c = a.add (b.add c) := by
  have h1 := add_v ha hb; have h2 := add_v (ha.add hb) hc; have h3 := add_v hb hc; have h4 := add_v ha (hb.add hc)
  exact Vq.inj ((ha.add hb).add hc) (ha.add (hb.add hc)) (by grind) (by grind) (by grind)
theorem s_one (ha : a.good) : a.scale (Fq.ofInt 1) = a := by
  have h1 := scale_v ha (ofInt_valid 1); have h2 := v_ofInt 1
  exact Vq.inj (ha.scale (ofInt_valid 1)) ha (by grind) (by grind) (by grind)
-- products
-- on the way
theorem lerp_v (ha : a.good) (hb : b.good) (ht : t.valid = true) : (a.lerp b t).x.v = a.x.v + (b.x.v - a.x.v) * t.v ∧ (a.lerp b t).y.v = a.y.v + (b.y.v - a.y.v) * t.v ∧ (a.lerp b t).z.v = a.z.v + (b.z.v - a.z.v) * t.v := by
  have h1 := sub_v hb ha; have h2 := scale_v (hb.sub ha) ht; have h3 := add_v ha ((hb.sub ha).scale ht)
  unfold Vq.lerp
  rw [h3.1, h3.2.1, h3.2.2, h2.1, h2.2.1, h2.2.2, h1.1, h1.2.1, h1.2.2]
  exact ⟨rfl, rfl, rfl⟩
theorem w_zero (ha : a.good) (hb : b.good) : a.lerp b (Fq.ofInt 0) = a := by
  have h1 := lerp_v ha hb (ofInt_valid 0); have h2 := v_ofInt 0
  exact Vq.inj (ha.lerp hb (ofInt_valid 0)) ha (by grind) (by grind) (by grind)
theorem w_one (ha : a.good) (hb : b.good) : a.lerp b (Fq.ofInt 1) = b := by
  have h1 := lerp_v ha hb (ofInt_valid 1); have h2 := v_ofInt 1
  exact Vq.inj (ha.lerp hb (ofInt_valid 1)) hb (by grind) (by grind) (by grind)
end
end Go.Proofs.YthebfmlfgfmlnaaGreatDoor
namespace Go.Proofs.YthebfmlfgfmlnaaGreatDoor
set_option linter.unusedSimpArgs false
set_option linter.unusedVariables false
set_option maxRecDepth 100000
open Go.RowKit
/-- A quaternion, a vector of rational numbers. -/
@[ext] structure QR where
  w : Rat
  x : Rat
  y : Rat
  z : Rat
@[ext] structure VR where
  x : Rat
  y : Rat
  z : Rat
def QR.nrm (a : QR) : Rat := a.w * a.w + (a.x * a.x + (a.y * a.y + a.z * a.z))
def QR.mul (p q : QR) : QR := ⟨p.w * q.w - (p.x * q.x + (p.y * q.y + p.z * q.z)), q.x * p.w + p.x * q.w + (p.y * q.z - p.z * q.y), q.y * p.w + p.y * q.w + (p.z * q.x - p.x * q.z), q.z * p.w + p.z * q.w + (p.x * q.y - p.y * q.x)⟩
def QR.conj (a : QR) : QR := ⟨a.w, -a.x, -a.y, -a.z⟩
def QR.smul (k : Rat) (a : QR) : QR := ⟨k * a.w, k * a.x, k * a.y, k * a.z⟩
def QR.one : QR := ⟨1, 0, 0, 0⟩
/-- Equal up to a factor. -/
def Sim (a b : QR) : Prop := ∃ k : Rat, k ≠ 0 ∧ b = QR.smul k a
/-- The image, times the square of the length. -/
def QR.rot (q : QR) (v : VR) : VR :=
  ⟨(q.w * q.w - (q.x * q.x + (q.y * q.y + q.z * q.z))) * v.x + (2 * (q.x * v.x + (q.y * v.y + q.z * v.z))) * q.x + (2 * q.w) * (q.y * v.z - q.z * v.y),
   (q.w * q.w - (q.x * q.x + (q.y * q.y + q.z * q.z))) * v.y + (2 * (q.x * v.x + (q.y * v.y + q.z * v.z))) * q.y + (2 * q.w) * (q.z * v.x - q.x * v.z),
   (q.w * q.w - (q.x * q.x + (q.y * q.y + q.z * q.z))) * v.z + (2 * (q.x * v.x + (q.y * v.y + q.z * v.z))) * q.z + (2 * q.w) * (q.x * v.y - q.y * v.x)⟩
def VR.smul (k : Rat) (v : VR) : VR := ⟨k * v.x, k * v.y, k * v.z⟩
def VR.dot (a b : VR) : Rat := a.x * b.x + (a.y * b.y + a.z * b.z)
def QR.app (q : QR) (v : VR) : VR := (q.rot v).smul (q.nrm)⁻¹
theorem sq_nonneg' (r : Rat) : 0 ≤ r * r := by
  rcases Rat.le_total (a := 0) (b := r) with h | h
  · exact Rat.mul_nonneg h h
  · have := Rat.mul_nonneg (show 0 ≤ -r by grind) (show 0 ≤ -r by grind); grind
theorem nrm_zero {a : QR} : a.nrm = 0 ↔ a.w = 0 ∧ a.x = 0 ∧ a.y = 0 ∧ a.z = 0 := by
  unfold QR.nrm
  have h1 := sq_nonneg' a.w
  have h2 := sq_nonneg' a.x
  have h3 := sq_nonneg' a.y
  have h4 := sq_nonneg' a.z
  constructor
  · intro h
    have e1 : a.w * a.w = 0 := by grind
    have e2 : a.x * a.x = 0 := by grind
    have e3 : a.y * a.y = 0 := by grind
    have e4 : a.z * a.z = 0 := by grind
    exact ⟨by grind, by grind, by grind, by grind⟩
  · rintro ⟨e1, e2, e3, e4⟩
    rw [e1, e2, e3, e4]; grind
theorem nrm_mul (p q : QR) : (p.mul q).nrm = p.nrm * q.nrm := by
  unfold QR.nrm QR.mul; grind
theorem nrm_conj (p : QR) : p.conj.nrm = p.nrm := by unfold QR.nrm QR.conj; grind
theorem nrm_smul (k : Rat) (p : QR) : (QR.smul k p).nrm = k * k * p.nrm := by unfold QR.nrm QR.smul; grind
theorem mul_ne {a b : Rat} (ha : a ≠ 0) (hb : b ≠ 0) : a * b ≠ 0 := fun h => by rcases Rat.mul_eq_zero.1 h with h | h; exact ha h; exact hb h
theorem Sim.refl (a : QR) : Sim a a := ⟨1, by decide, by unfold QR.smul; ext <;> simp only <;> grind⟩
theorem Sim.symm {a b : QR} (h : Sim a b) : Sim b a := by
  obtain ⟨k, hk, rfl⟩ := h
  refine ⟨k⁻¹, fun h => by have h1 := Rat.inv_mul_cancel k hk; rw [h] at h1; grind, ?_⟩
  have := Rat.inv_mul_cancel k hk
  unfold QR.smul; ext <;> simp only <;> grind
theorem Sim.trans {a b c : QR} (h : Sim a b) (h2 : Sim b c) : Sim a c := by
  obtain ⟨k, hk, rfl⟩ := h
  obtain ⟨l, hl, rfl⟩ := h2
  exact ⟨l * k, mul_ne hl hk, by unfold QR.smul; ext <;> simp only <;> grind⟩
theorem Sim.mul {a a' b b' : QR} (h : Sim a a') (h2 : Sim b b') : Sim (a.mul b) (a'.mul b') := by
  obtain ⟨k, hk, rfl⟩ := h
  obtain ⟨l, hl, rfl⟩ := h2
  exact ⟨k * l, mul_ne hk hl, by unfold QR.smul QR.mul; ext <;> simp only <;> grind⟩
theorem Sim.conj {a b : QR} (h : Sim a b) : Sim a.conj b.conj := by
  obtain ⟨k, hk, rfl⟩ := h
  exact ⟨k, hk, by unfold QR.smul QR.conj; ext <;> simp only <;> grind⟩
theorem Sim.nrm {a b : QR} (h : Sim a b) (ha : a.nrm ≠ 0) : b.nrm ≠ 0 := by
  obtain ⟨k, hk, rfl⟩ := h
  rw [nrm_smul]; exact mul_ne (mul_ne hk hk) ha
theorem m_assoc (a b c : QR) : (a.mul b).mul c = a.mul (b.mul c) := by unfold QR.mul; ext <;> simp only <;> grind
theorem m_one (a : QR) : a.mul QR.one = a := by unfold QR.mul QR.one; ext <;> simp only <;> grind
theorem one_m (a : QR) : QR.one.mul a = a := by unfold QR.mul QR.one; ext <;> simp only <;> grind
theorem m_conj (a : QR) (h : a.nrm ≠ 0) : Sim QR.one (a.mul a.conj) := ⟨a.nrm, h, by unfold QR.mul QR.conj QR.one QR.smul QR.nrm; ext <;> simp only <;> grind⟩
theorem rot_smul (k : Rat) (q : QR) (v : VR) : (QR.smul k q).rot v = (q.rot v).smul (k * k) := by unfold QR.rot QR.smul VR.smul; ext <;> simp only <;> grind
theorem rot_lin (k : Rat) (q : QR) (v : VR) : q.rot (v.smul k) = (q.rot v).smul k := by unfold QR.rot VR.smul; ext <;> simp only <;> grind
theorem rot_mul (q p : QR) (v : VR) : (q.mul p).rot v = q.rot (p.rot v) := by
  unfold QR.rot QR.mul; ext <;> simp only <;> grind
theorem rot_dot (q : QR) (u v : VR) : (q.rot u).dot (q.rot v) = q.nrm * q.nrm * u.dot v := by unfold QR.rot VR.dot QR.nrm; simp only; grind
theorem smul_smul (k l : Rat) (v : VR) : (v.smul k).smul l = v.smul (l * k) := by unfold VR.smul; ext <;> simp only <;> grind
theorem app_sim {a b : QR} (h : Sim a b) (ha : a.nrm ≠ 0) (v : VR) : a.app v = b.app v := by
  obtain ⟨k, hk, rfl⟩ := h
  unfold QR.app
  rw [rot_smul, nrm_smul, smul_smul]
  congr 1
  have h1 := Rat.inv_mul_cancel _ ha
  have h2 := Rat.inv_mul_cancel _ (mul_ne (mul_ne hk hk) ha)
  have h3 : (k * k * a.nrm)⁻¹ = (k * k)⁻¹ * (a.nrm)⁻¹ := by rw [Rat.inv_mul_rev, Rat.mul_comm]
  have h4 := Rat.inv_mul_cancel _ (mul_ne hk hk)
  rw [h3]; grind
theorem app_mul (q p : QR) (v : VR) : (q.mul p).app v = q.app (p.app v) := by
  unfold QR.app
  rw [rot_mul, nrm_mul, rot_lin, smul_smul, Rat.inv_mul_rev, Rat.mul_comm]
theorem app_one (v : VR) : QR.one.app v = v := by
  unfold QR.app QR.one QR.rot QR.nrm VR.smul
  have : ((1 : Rat) * 1 + (0 * 0 + (0 * 0 + 0 * 0)))⁻¹ = 1 := by decide +kernel
  ext <;> simp only [this] <;> grind
theorem app_dot (q : QR) (h : q.nrm ≠ 0) (u v : VR) : (q.app u).dot (q.app v) = u.dot v := by
  have h1 := rot_dot q u v
  have h2 := Rat.inv_mul_cancel _ h
  have h3 : (q.app u).dot (q.app v) = (q.nrm)⁻¹ * (q.nrm)⁻¹ * (q.rot u).dot (q.rot v) := by unfold QR.app VR.smul VR.dot; simp only; grind
  rw [h3, h1]; grind
theorem app_back (q : QR) (h : q.nrm ≠ 0) (v : VR) : q.conj.app (q.app v) = v := by
  have h1 : (q.conj.mul q).app v = v := by
    have h2 : Sim QR.one (q.conj.mul q) := ⟨q.nrm, h, by unfold QR.mul QR.conj QR.one QR.smul QR.nrm; ext <;> simp only <;> grind⟩
    rw [← app_sim h2 (by decide +kernel), app_one]
  rw [← app_mul, h1]
end Go.Proofs.YthebfmlfgfmlnaaGreatDoor
namespace Go.Proofs.YthebfmlfgfmlnaaGreatDoor
set_option linter.unusedSimpArgs false
set_option linter.unusedVariables false
set_option maxRecDepth 100000
open Go.RowKit
/-- A quaternion of fractions. -/
structure Qq where
  w : Fq
  x : Fq
  y : Fq
  z : Fq
def Qq.r (q : Qq) : QR := ⟨q.w.v, q.x.v, q.y.v, q.z.v⟩
def Qq.axis (q : Qq) : Vq := ⟨q.x, q.y, q.z⟩
def Vq.r (a : Vq) : VR := ⟨a.x.v, a.y.v, a.z.v⟩
structure Qq.comp (q : Qq) : Prop where
  w : q.w.valid = true
  x : q.x.valid = true
  y : q.y.valid = true
  z : q.z.valid = true
theorem Qq.comp.axis {q : Qq} (h : q.comp) : q.axis.good := ⟨h.x, h.y, h.z⟩
/-- The first component that is not zero. -/
def Qq.first (q : Qq) : Fq := if q.w.p ≠ 0 then q.w else if q.x.p ≠ 0 then q.x else if q.y.p ≠ 0 then q.y else q.z
def Qq.over (q : Qq) (n : Fq) : Qq := ⟨q.w.div n, q.x.div n, q.y.div n, q.z.div n⟩
def Qq.zero : Qq := ⟨.zero, .zero, .zero, .zero⟩
/-- What Make returns. -/
def Qq.canon (q : Qq) : Qq := if q.first.p = 0 then .zero else q.over q.first
structure Qq.good (q : Qq) : Prop where
  comp : q.comp
  one : q.first.v = 1
def Qq.id : Qq := ⟨.ofInt 1, .ofInt 0, .ofInt 0, .ofInt 0⟩
section
variable {p q : Qq}
theorem Qq.comp.first (h : q.comp) : q.first.valid = true := by
  unfold Qq.first
  split
  · exact h.w
  · split
    · exact h.x
    · split
      · exact h.y
      · exact h.z
theorem Qq.comp.over (h : q.comp) {n : Fq} (hn : n.p ≠ 0) : (q.over n).comp := ⟨div_valid h.w hn, div_valid h.x hn, div_valid h.y hn, div_valid h.z hn⟩
theorem div_v {a n : Fq} (ha : a.valid = true) (hn : n.valid = true) (h0 : n.p ≠ 0) : (a.div n).v = a.v / n.v := v_div (Fq.valid.n ha) (Fq.valid.n hn) h0
theorem p_v {a : Fq} (ha : a.valid = true) : a.v = 0 ↔ a.p = 0 := v_eq0 (Fq.valid.n ha)
theorem over_r (h : q.comp) {n : Fq} (hn : n.valid = true) (h0 : n.p ≠ 0) : (q.over n).r = QR.smul (n.v)⁻¹ q.r := by
  unfold Qq.r Qq.over QR.smul
  simp only
  rw [div_v h.w hn h0, div_v h.x hn h0, div_v h.y hn h0, div_v h.z hn h0]
  ext <;> simp only [Rat.div_def] <;> grind
theorem first_ne (h : q.comp) : q.first.p ≠ 0 ↔ q.r.nrm ≠ 0 := by
  rw [show (q.r.nrm ≠ 0) ↔ _ from not_congr nrm_zero]
  unfold Qq.r Qq.first
  simp only
  have h1 := p_v h.w
  have h2 := p_v h.x
  have h3 := p_v h.y
  have h4 := p_v h.z
  by_cases c1 : q.w.p = 0
  · rw [if_neg (by simpa using c1)]
    by_cases c2 : q.x.p = 0
    · rw [if_neg (by simpa using c2)]
      by_cases c3 : q.y.p = 0
      · rw [if_neg (by simpa using c3)]
        constructor
        · intro c h; exact c (h4.1 h.2.2.2)
        · intro c h; exact c ⟨h1.2 c1, h2.2 c2, h3.2 c3, h4.2 h⟩
      · rw [if_pos c3]; exact ⟨fun _ h => c3 (h3.1 h.2.2.1), fun _ => c3⟩
    · rw [if_pos c2]; exact ⟨fun _ h => c2 (h2.1 h.2.1), fun _ => c2⟩
  · rw [if_pos c1]; exact ⟨fun _ h => c1 (h1.1 h.1), fun _ => c1⟩
theorem inv_ne {k : Rat} (hk : k ≠ 0) : k⁻¹ ≠ 0 := fun h => by have h1 := Rat.inv_mul_cancel k hk; rw [h] at h1; grind
theorem canon_sim (h : q.comp) (h0 : q.first.p ≠ 0) : Sim q.r q.canon.r := by
  unfold Qq.canon
  rw [if_neg h0]
  exact ⟨_, inv_ne (fun e => h0 ((p_v h.first).1 e)), over_r h h.first h0⟩
/-- The first component that is not zero, of rational numbers. -/
def QR.fst (a : QR) : Rat := if a.w ≠ 0 then a.w else if a.x ≠ 0 then a.x else if a.y ≠ 0 then a.y else a.z
theorem first_v (h : q.comp) : q.first.v = q.r.fst := by
  unfold Qq.first QR.fst Qq.r
  simp only
  have h1 := p_v h.w
  have h2 := p_v h.x
  have h3 := p_v h.y
  by_cases c1 : q.w.p = 0
  · have d1 := h1.2 c1
    simp only [c1, d1, ne_eq, not_true_eq_false, if_false]
    by_cases c2 : q.x.p = 0
    · have d2 := h2.2 c2
      simp only [c2, d2, not_true_eq_false, if_false]
      by_cases c3 : q.y.p = 0
      · have d3 := h3.2 c3
        simp only [c3, d3, not_true_eq_false, if_false]
      · have d3 : ¬ q.y.v = 0 := fun e => c3 (h3.1 e)
        simp only [c3, d3, not_false_eq_true, if_true]
    · have d2 : ¬ q.x.v = 0 := fun e => c2 (h2.1 e)
      simp only [c2, d2, not_false_eq_true, if_true]
  · have d1 : ¬ q.w.v = 0 := fun e => c1 (h1.1 e)
    simp only [c1, d1, ne_eq, not_false_eq_true, if_true]
theorem fst_smul (k : Rat) (hk : k ≠ 0) (a : QR) : (QR.smul k a).fst = k * a.fst := by
  unfold QR.fst QR.smul
  simp only
  have hz : ∀ r : Rat, k * r ≠ 0 ↔ r ≠ 0 := fun r => ⟨fun h e => h (by rw [e]; grind), fun h => mul_ne hk h⟩
  by_cases c1 : a.w ≠ 0
  · rw [if_pos ((hz _).2 c1), if_pos c1]
  · rw [if_neg (fun h => c1 ((hz _).1 h)), if_neg c1]
    by_cases c2 : a.x ≠ 0
    · rw [if_pos ((hz _).2 c2), if_pos c2]
    · rw [if_neg (fun h => c2 ((hz _).1 h)), if_neg c2]
      by_cases c3 : a.y ≠ 0
      · rw [if_pos ((hz _).2 c3), if_pos c3]
      · rw [if_neg (fun h => c3 ((hz _).1 h)), if_neg c3]
theorem canon_good (h : q.comp) (h0 : q.first.p ≠ 0) : q.canon.good := by
  have hc : q.canon.comp := by unfold Qq.canon; rw [if_neg h0]; exact h.over h0
  refine ⟨hc, ?_⟩
  have hn : q.first.v ≠ 0 := fun e => h0 ((p_v h.first).1 e)
  rw [first_v hc]
  have e : q.canon.r = QR.smul (q.first.v)⁻¹ q.r := by unfold Qq.canon; rw [if_neg h0]; exact over_r h h.first h0
  rw [e, fst_smul _ (inv_ne hn), ← first_v h, Rat.inv_mul_cancel _ hn]
/-- Rotations that are equal up to a factor are equal. -/
theorem good_inj (hp : p.good) (hq : q.good) (h : Sim p.r q.r) : p = q := by
  obtain ⟨k, hk, e⟩ := h
  have h1 := hp.one
  have h2 := hq.one
  rw [first_v hp.comp] at h1
  rw [first_v hq.comp, e, fst_smul k hk, h1] at h2
  obtain rfl : k = 1 := by grind
  have e1 := congrArg QR.w e
  have e2 := congrArg QR.x e
  have e3 := congrArg QR.y e
  have e4 := congrArg QR.z e
  unfold QR.smul Qq.r at e1 e2 e3 e4
  simp only at e1 e2 e3 e4
  have f1 := v_inj hp.comp.w hq.comp.w (by grind)
  have f2 := v_inj hp.comp.x hq.comp.x (by grind)
  have f3 := v_inj hp.comp.y hq.comp.y (by grind)
  have f4 := v_inj hp.comp.z hq.comp.z (by grind)
  cases p; cases q; simp only at f1 f2 f3 f4; subst f1; subst f2; subst f3; subst f4; rfl
theorem good_nrm (h : q.good) : q.r.nrm ≠ 0 := (first_ne h.comp).1 (fun e => by have h1 := (p_v h.comp.first).2 e; rw [h.one] at h1; exact absurd h1 (by decide))
theorem id_good : Qq.id.good := by
  refine ⟨⟨ofInt_valid 1, ofInt_valid 0, ofInt_valid 0, ofInt_valid 0⟩, ?_⟩
  have e : Qq.id.first = Fq.ofInt 1 := rfl
  rw [e, v_ofInt]; rfl
theorem id_r : Qq.id.r = QR.one := by unfold Qq.id Qq.r QR.one; simp only [v_ofInt]; rfl
/-- The product before it is made canonical. -/
def Qq.hamV (p q : Qq) : Vq := ((q.axis.scale p.w).add (p.axis.scale q.w)).add (p.axis.cross q.axis)
def Qq.hamW (p q : Qq) : Fq := (p.w.mul q.w).sub (p.axis.dot q.axis)
def Qq.ham (p q : Qq) : Qq := ⟨p.hamW q, (p.hamV q).x, (p.hamV q).y, (p.hamV q).z⟩
def Qq.mul (p q : Qq) : Qq := (p.ham q).canon
def Qq.inv (q : Qq) : Qq := (Qq.mk q.w (q.axis.scale (.ofInt (-1))).x (q.axis.scale (.ofInt (-1))).y (q.axis.scale (.ofInt (-1))).z).canon
def Qq.inv' (q : Qq) : Qq := (Qq.mk q.w q.x.neg q.y.neg q.z.neg).canon
theorem hamV_good (hp : p.comp) (hq : q.comp) : (p.hamV q).good := ((hq.axis.scale hp.w).add (hp.axis.scale hq.w)).add (hp.axis.cross hq.axis)
theorem ham_comp (hp : p.comp) (hq : q.comp) : (p.ham q).comp := ⟨sub_valid (mul_valid hp.w hq.w) (dot_valid hp.axis hq.axis), (hamV_good hp hq).x, (hamV_good hp hq).y, (hamV_good hp hq).z⟩
theorem ham_r (hp : p.comp) (hq : q.comp) : (p.ham q).r = p.r.mul q.r := by
  have h1 := v_s (mul_valid hp.w hq.w) (dot_valid hp.axis hq.axis)
  have h2 := v_m hp.w hq.w
  have h3 := dot_v hp.axis hq.axis
  have h4 := scale_v hq.axis hp.w
  have h5 := scale_v hp.axis hq.w
  have h6 := cross_v hp.axis hq.axis
  have h7 := add_v (hq.axis.scale hp.w) (hp.axis.scale hq.w)
  have h8 := add_v ((hq.axis.scale hp.w).add (hp.axis.scale hq.w)) (hp.axis.cross hq.axis)
  unfold Qq.ham Qq.r QR.mul
  simp only
  ext <;> simp only
  · unfold Qq.hamW; rw [h1, h2, h3]; rfl
  · unfold Qq.hamV; rw [h8.1, h7.1, h4.1, h5.1, h6.1]; rfl
  · unfold Qq.hamV; rw [h8.2.1, h7.2.1, h4.2.1, h5.2.1, h6.2.1]; rfl
  · unfold Qq.hamV; rw [h8.2.2, h7.2.2, h4.2.2, h5.2.2, h6.2.2]; rfl
theorem ham_ne (hp : p.good) (hq : q.good) : (p.ham q).first.p ≠ 0 := by
  rw [first_ne (ham_comp hp.comp hq.comp), ham_r hp.comp hq.comp, nrm_mul]
  exact mul_ne (good_nrm hp) (good_nrm hq)
theorem mul_good (hp : p.good) (hq : q.good) : (p.mul q).good := canon_good (ham_comp hp.comp hq.comp) (ham_ne hp hq)
theorem mul_sim (hp : p.good) (hq : q.good) : Sim (p.r.mul q.r) (p.mul q).r := by
  have h := canon_sim (ham_comp hp.comp hq.comp) (ham_ne hp hq)
  rw [ham_r hp.comp hq.comp] at h; exact h
theorem inv_eq (hq : q.comp) : Qq.mk q.w (q.axis.scale (.ofInt (-1))).x (q.axis.scale (.ofInt (-1))).y (q.axis.scale (.ofInt (-1))).z = Qq.mk q.w q.x.neg q.y.neg q.z.neg := by
  have h := scale_v hq.axis (ofInt_valid (-1))
  have hg := hq.axis.scale (ofInt_valid (-1))
  have h1 := v_ofInt (-1)
  rw [h1] at h
  have e1 := v_inj hg.x (neg_valid hq.x) (by rw [h.1, v_neg]; show q.x.v * _ = _; grind)
  have e2 := v_inj hg.y (neg_valid hq.y) (by rw [h.2.1, v_neg]; show q.y.v * _ = _; grind)
  have e3 := v_inj hg.z (neg_valid hq.z) (by rw [h.2.2, v_neg]; show q.z.v * _ = _; grind)
  rw [e1, e2, e3]
theorem inv_inv' (hq : q.comp) : q.inv = q.inv' := by unfold Qq.inv Qq.inv'; rw [inv_eq hq]
theorem conj_comp (hq : q.comp) : (Qq.mk q.w q.x.neg q.y.neg q.z.neg).comp := ⟨hq.w, neg_valid hq.x, neg_valid hq.y, neg_valid hq.z⟩
theorem conj_r : (Qq.mk q.w q.x.neg q.y.neg q.z.neg).r = q.r.conj := by unfold Qq.r QR.conj; simp only [v_neg]
theorem conj_ne (hq : q.good) : (Qq.mk q.w q.x.neg q.y.neg q.z.neg).first.p ≠ 0 := by rw [first_ne (conj_comp hq.comp), conj_r, nrm_conj]; exact good_nrm hq
theorem inv_good (hq : q.good) : q.inv.good := by rw [inv_inv' hq.comp]; exact canon_good (conj_comp hq.comp) (conj_ne hq)
theorem inv_sim (hq : q.good) : Sim q.r.conj q.inv.r := by
  rw [inv_inv' hq.comp]
  have h := canon_sim (conj_comp hq.comp) (conj_ne hq)
  rw [conj_r] at h; exact h
variable {a b c : Qq}
theorem g_assoc (ha : a.good) (hb : b.good) (hc : c.good) : (a.mul b).mul c = a.mul (b.mul c) := by
  refine good_inj (mul_good (mul_good ha hb) hc) (mul_good ha (mul_good hb hc)) ?_
  have h1 := (mul_sim (mul_good ha hb) hc).symm.trans (((mul_sim ha hb).symm).mul (Sim.refl c.r))
  have h2 := ((Sim.refl a.r).mul (mul_sim hb hc)).trans (mul_sim ha (mul_good hb hc))
  rw [m_assoc] at h1
  exact h1.trans h2
theorem g_one (ha : a.good) : a.mul Qq.id = a := by
  refine good_inj (mul_good ha id_good) ha ?_
  have h := (mul_sim ha id_good).symm
  rw [id_r, m_one] at h; exact h
theorem g_one' (ha : a.good) : Qq.id.mul a = a := by
  refine good_inj (mul_good id_good ha) ha ?_
  have h := (mul_sim id_good ha).symm
  rw [id_r, one_m] at h; exact h
theorem g_inv (ha : a.good) : a.mul a.inv = Qq.id := by
  refine good_inj (mul_good ha (inv_good ha)) id_good ?_
  have h := (mul_sim ha (inv_good ha)).symm.trans (((Sim.refl a.r).mul (inv_sim ha)).symm)
  rw [id_r]
  exact h.trans (m_conj a.r (good_nrm ha)).symm
end
end Go.Proofs.YthebfmlfgfmlnaaGreatDoor
namespace Go.Proofs.YthebfmlfgfmlnaaGreatDoor
set_option linter.unusedSimpArgs false
set_option linter.unusedVariables false
set_option maxRecDepth 100000
open Go.RowKit
/-- The square of the length. -/
def Qq.nn (q : Qq) : Fq := (q.w.mul q.w).add (q.axis.dot q.axis)
def Qq.dd (q : Qq) : Fq := (q.w.mul q.w).sub (q.axis.dot q.axis)
def Qq.ap1 (q : Qq) (v : Vq) : Vq := v.scale q.dd
def Qq.ap2 (q : Qq) (v : Vq) : Vq := q.axis.scale ((Fq.ofInt 2).mul (q.axis.dot v))
def Qq.ap3 (q : Qq) (v : Vq) : Vq := (q.axis.cross v).scale ((Fq.ofInt 2).mul q.w)
def Qq.rat (q : Qq) : Fq := (Fq.ofInt 1).div q.nn
/-- The image: of the program, of the reference. -/
def Qq.app (q : Qq) (v : Vq) : Vq := (((q.ap1 v).add (q.ap2 v)).add (q.ap3 v)).scale q.rat
def Qq.app' (q : Qq) (v : Vq) : Vq := ((q.ap1 v).add ((q.ap2 v).add (q.ap3 v))).scale q.rat
section
variable {p q d : Qq} {v x y a b : Vq} {t : Fq}
theorem nn_valid (h : q.comp) : q.nn.valid = true := add_valid (mul_valid h.w h.w) (dot_valid h.axis h.axis)
theorem dd_valid (h : q.comp) : q.dd.valid = true := sub_valid (mul_valid h.w h.w) (dot_valid h.axis h.axis)
theorem nn_v (h : q.comp) : q.nn.v = q.r.nrm := by
  unfold Qq.nn
  rw [v_a (mul_valid h.w h.w) (dot_valid h.axis h.axis), v_m h.w h.w, dot_v h.axis h.axis]; rfl
theorem dd_v (h : q.comp) : q.dd.v = q.w.v * q.w.v - (q.x.v * q.x.v + (q.y.v * q.y.v + q.z.v * q.z.v)) := by
  unfold Qq.dd
  rw [v_s (mul_valid h.w h.w) (dot_valid h.axis h.axis), v_m h.w h.w, dot_v h.axis h.axis]; rfl
theorem nn_ne (h : q.good) : q.nn.p ≠ 0 := fun e => good_nrm h (by rw [← nn_v h.comp]; exact (p_v (nn_valid h.comp)).2 e)
theorem ap1_good (h : q.comp) (hv : v.good) : (q.ap1 v).good := hv.scale (dd_valid h)
theorem ap2_good (h : q.comp) (hv : v.good) : (q.ap2 v).good := h.axis.scale (mul_valid (ofInt_valid 2) (dot_valid h.axis hv))
theorem ap3_good (h : q.comp) (hv : v.good) : (q.ap3 v).good := (h.axis.cross hv).scale (mul_valid (ofInt_valid 2) h.w)
theorem rat_valid (h : q.good) : q.rat.valid = true := div_valid (ofInt_valid 1) (nn_ne h)
theorem rat_v (h : q.good) : q.rat.v = (q.r.nrm)⁻¹ := by
  unfold Qq.rat
  rw [div_v (ofInt_valid 1) (nn_valid h.comp) (nn_ne h), v_ofInt, nn_v h.comp, Rat.div_def]
  exact Rat.one_mul _
theorem app_good (h : q.good) (hv : v.good) : (q.app v).good := (((ap1_good h.comp hv).add (ap2_good h.comp hv)).add (ap3_good h.comp hv)).scale (rat_valid h)
theorem app'_good (h : q.good) (hv : v.good) : (q.app' v).good := ((ap1_good h.comp hv).add ((ap2_good h.comp hv).add (ap3_good h.comp hv))).scale (rat_valid h)
theorem ap_v (h : q.comp) (hv : v.good) :
    ((q.ap1 v).x.v + (q.ap2 v).x.v + (q.ap3 v).x.v = (q.r.rot v.r).x) ∧ ((q.ap1 v).y.v + (q.ap2 v).y.v + (q.ap3 v).y.v = (q.r.rot v.r).y) ∧ ((q.ap1 v).z.v + (q.ap2 v).z.v + (q.ap3 v).z.v = (q.r.rot v.r).z) := by
  have h1 := dd_v h
  have h2 := dot_v h.axis hv
  have h3 := v_m (ofInt_valid 2) (dot_valid h.axis hv)
  have h4 := v_m (ofInt_valid 2) h.w
  have h5 := v_ofInt 2
  have h6 := cross_v h.axis hv
  have h7 := scale_v hv (dd_valid h)
  have h8 := scale_v h.axis (mul_valid (ofInt_valid 2) (dot_valid h.axis hv))
  have h9 := scale_v (h.axis.cross hv) (mul_valid (ofInt_valid 2) h.w)
  rw [h1] at h7
  rw [h3, h2, h5] at h8
  rw [h4, h5, h6.1, h6.2.1, h6.2.2] at h9
  unfold Qq.ap1 Qq.ap2 Qq.ap3
  rw [h7.1, h7.2.1, h7.2.2, h8.1, h8.2.1, h8.2.2, h9.1, h9.2.1, h9.2.2]
  unfold QR.rot Vq.r Qq.r Qq.axis
  simp only
  refine ⟨?_, ?_, ?_⟩ <;> grind
theorem app_r (h : q.good) (hv : v.good) : (q.app v).r = q.r.app v.r := by
  have h0 := ap_v h.comp hv
  have h1 := add_v (ap1_good h.comp hv) (ap2_good h.comp hv)
  have h2 := add_v ((ap1_good h.comp hv).add (ap2_good h.comp hv)) (ap3_good h.comp hv)
  have h3 := scale_v (((ap1_good h.comp hv).add (ap2_good h.comp hv)).add (ap3_good h.comp hv)) (rat_valid h)
  have h4 := rat_v h
  unfold Qq.app QR.app VR.smul
  ext <;> simp only [Vq.r]
  · rw [h3.1, h2.1, h1.1, h0.1, h4]; exact Rat.mul_comm _ _
  · rw [h3.2.1, h2.2.1, h1.2.1, h0.2.1, h4]; exact Rat.mul_comm _ _
  · rw [h3.2.2, h2.2.2, h1.2.2, h0.2.2, h4]; exact Rat.mul_comm _ _
theorem app'_r (h : q.good) (hv : v.good) : (q.app' v).r = q.r.app v.r := by
  have h0 := ap_v h.comp hv
  have h1 := add_v (ap2_good h.comp hv) (ap3_good h.comp hv)
  have h2 := add_v (ap1_good h.comp hv) ((ap2_good h.comp hv).add (ap3_good h.comp hv))
  have h3 := scale_v ((ap1_good h.comp hv).add ((ap2_good h.comp hv).add (ap3_good h.comp hv))) (rat_valid h)
  have h4 := rat_v h
  unfold Qq.app' QR.app VR.smul
  ext <;> simp only [Vq.r]
  · rw [h3.1, h2.1, h1.1, ← Rat.add_assoc, h0.1, h4]; exact Rat.mul_comm _ _
  · rw [h3.2.1, h2.2.1, h1.2.1, ← Rat.add_assoc, h0.2.1, h4]; exact Rat.mul_comm _ _
  · rw [h3.2.2, h2.2.2, h1.2.2, ← Rat.add_assoc, h0.2.2, h4]; exact Rat.mul_comm _ _
theorem Vq.inj_r (ha : a.good) (hb : b.good) (h : a.r = b.r) : a = b :=
  Vq.inj ha hb (congrArg VR.x h) (congrArg VR.y h) (congrArg VR.z h)
theorem app_app' (h : q.good) (hv : v.good) : q.app v = q.app' v := Vq.inj_r (app_good h hv) (app'_good h hv) (by rw [app_r h hv, app'_r h hv])
theorem dot_r (ha : a.good) (hb : b.good) : (a.dot b).v = a.r.dot b.r := by rw [dot_v ha hb]; rfl
-- rigid
theorem r_dot (h : q.good) (hx : x.good) (hy : y.good) : (q.app x).dot (q.app y) = x.dot y :=
  v_inj (dot_valid (app_good h hx) (app_good h hy)) (dot_valid hx hy) (by rw [dot_r (app_good h hx) (app_good h hy), app_r h hx, app_r h hy, app_dot _ (good_nrm h), dot_r hx hy])
theorem r_mul (hq : q.good) (hp : p.good) (hx : x.good) : (q.mul p).app x = q.app (p.app x) :=
  Vq.inj_r (app_good (mul_good hq hp) hx) (app_good hq (app_good hp hx)) (by
    rw [app_r (mul_good hq hp) hx, app_r hq (app_good hp hx), app_r hp hx, ← app_mul]
    exact (app_sim (mul_sim hq hp) (by rw [nrm_mul]; exact mul_ne (good_nrm hq) (good_nrm hp)) _).symm)
theorem r_back (hp : p.good) (hx : x.good) : p.inv.app (p.app x) = x :=
  Vq.inj_r (app_good (inv_good hp) (app_good hp hx)) hx (by
    rw [app_r (inv_good hp) (app_good hp hx), app_r hp hx, ← app_sim (inv_sim hp) (by rw [nrm_conj]; exact good_nrm hp)]
    exact app_back _ (good_nrm hp) _)
-- on the way
/-- The rotation between, where the way is not half a turn. -/
def Qq.way (p d : Qq) (t : Fq) : Qq := p.mul (Qq.mk (.ofInt 1) (d.axis.scale t).x (d.axis.scale t).y (d.axis.scale t).z).canon
theorem part_comp (hd : d.comp) (ht : t.valid = true) : (Qq.mk (.ofInt 1) (d.axis.scale t).x (d.axis.scale t).y (d.axis.scale t).z).comp :=
  ⟨ofInt_valid 1, (hd.axis.scale ht).x, (hd.axis.scale ht).y, (hd.axis.scale ht).z⟩
theorem part_first : (Qq.mk (.ofInt 1) (d.axis.scale t).x (d.axis.scale t).y (d.axis.scale t).z).first = Fq.ofInt 1 := rfl
theorem part_ne : (Qq.mk (.ofInt 1) (d.axis.scale t).x (d.axis.scale t).y (d.axis.scale t).z).first.p ≠ 0 := by rw [part_first]; decide
theorem part_good (hd : d.comp) (ht : t.valid = true) : (Qq.mk (.ofInt 1) (d.axis.scale t).x (d.axis.scale t).y (d.axis.scale t).z).good :=
  ⟨part_comp hd ht, by rw [part_first, v_ofInt]; rfl⟩
theorem canon_same (h : q.good) : q.canon = q :=
  good_inj (canon_good h.comp ((first_ne h.comp).2 (good_nrm h))) h (canon_sim h.comp ((first_ne h.comp).2 (good_nrm h))).symm
theorem way_zero (hp : p.good) (hd : d.comp) : p.way d (.ofInt 0) = p := by
  unfold Qq.way
  rw [canon_same (part_good hd (ofInt_valid 0))]
  have h := scale_v hd.axis (ofInt_valid 0)
  have h0 := v_ofInt 0
  rw [h0] at h
  have hg := hd.axis.scale (ofInt_valid 0)
  have e1 := v_inj hg.x (ofInt_valid 0) (by rw [h.1, h0]; grind)
  have e2 := v_inj hg.y (ofInt_valid 0) (by rw [h.2.1, h0]; grind)
  have e3 := v_inj hg.z (ofInt_valid 0) (by rw [h.2.2, h0]; grind)
  rw [e1, e2, e3]
  exact g_one hp
theorem way_one (hp : p.good) (hq : q.good) (hw : (p.inv.mul q).w.p ≠ 0) : p.way (p.inv.mul q) (.ofInt 1) = q := by
  have hd := mul_good (inv_good hp) hq
  have hw1 : (p.inv.mul q).w = .ofInt 1 := by
    have h1 := hd.one
    unfold Qq.first at h1
    rw [if_pos hw] at h1
    exact v_inj hd.comp.w (ofInt_valid 1) (by rw [h1, v_ofInt]; rfl)
  unfold Qq.way
  rw [canon_same (part_good hd.comp (ofInt_valid 1)), s_one hd.comp.axis]
  have e : Qq.mk (.ofInt 1) (p.inv.mul q).axis.x (p.inv.mul q).axis.y (p.inv.mul q).axis.z = p.inv.mul q := by rw [← hw1]; rfl
  rw [e, ← g_assoc hp (inv_good hp) hq, g_inv hp, g_one' hq]
-- from one vector to another
def Vq.turn (a b : Vq) : Qq := (Qq.mk ((a.dot a).add (a.dot b)) (a.cross b).x (a.cross b).y (a.cross b).z).canon
end
end Go.Proofs.YthebfmlfgfmlnaaGreatDoor
namespace Go.Proofs.YthebfmlfgfmlnaaGreatDoor
set_option linter.unusedSimpArgs false
set_option linter.unusedVariables false
set_option maxRecDepth 100000
open Go.RowKit
structure Vq.ok (d : Nat) (a : Vq) : Prop where
  x : a.x.ok d
  y : a.y.ok d
  z : a.z.ok d
structure Qq.ok (d : Nat) (q : Qq) : Prop where
  w : q.w.ok d
  x : q.x.ok d
  y : q.y.ok d
  z : q.z.ok d
section
variable {a b : Vq} {k : Fq} {p q : Qq} {d e f : Nat}
theorem Vq.ok.mono (h : a.ok d) (hd : d ≤ e) : a.ok e := ⟨h.x.mono hd, h.y.mono hd, h.z.mono hd⟩
theorem Qq.ok.mono (h : q.ok d) (hd : d ≤ e) : q.ok e := ⟨h.w.mono hd, h.x.mono hd, h.y.mono hd, h.z.mono hd⟩
theorem Qq.ok.axis (h : q.ok d) : q.axis.ok d := ⟨h.x, h.y, h.z⟩
theorem Vq.ok.add (h : a.ok d) (k : b.ok e) : (a.add b).ok (2 * (d + e) + 1) := ⟨(h.x.add k.x).mono (by omega), (h.y.add k.y).mono (by omega), (h.z.add k.z).mono (by omega)⟩
theorem Vq.ok.sub (h : a.ok d) (k : b.ok e) : (a.sub b).ok (2 * (d + e) + 1) := ⟨(h.x.sub k.x).mono (by omega), (h.y.sub k.y).mono (by omega), (h.z.sub k.z).mono (by omega)⟩
theorem Vq.ok.scale (h : a.ok d) (hk : k.ok e) : (a.scale k).ok (d + e) := ⟨h.x.mul hk, h.y.mul hk, h.z.mul hk⟩
theorem Vq.ok.dot (h : a.ok d) (k : b.ok e) : (a.dot b).ok (10 * (d + e) + 3) := ((h.x.mul k.x).add ((h.y.mul k.y).add (h.z.mul k.z))).mono (by omega)
theorem Vq.ok.cross (h : a.ok d) (k : b.ok e) : (a.cross b).ok (4 * (d + e) + 1) := ⟨((h.y.mul k.z).sub (h.z.mul k.y)).mono (by omega), ((h.z.mul k.x).sub (h.x.mul k.z)).mono (by omega), ((h.x.mul k.y).sub (h.y.mul k.x)).mono (by omega)⟩
theorem Vq.ok.lerp (h : a.ok d) (k' : b.ok e) (hk : k.ok f) : (a.lerp b k).ok (2 * (d + (2 * (e + d) + 1 + f)) + 1) := h.add ((k'.sub h).scale hk)
theorem Qq.ok.first (h : q.ok d) : q.first.ok d := by
  unfold Qq.first
  split
  · exact h.w
  · split
    · exact h.x
    · split
      · exact h.y
      · exact h.z
theorem Qq.ok.over (h : q.ok d) {n : Fq} (hn : n.ok e) (h0 : n.p ≠ 0) : (q.over n).ok (d + e) := ⟨h.w.div hn h0, h.x.div hn h0, h.y.div hn h0, h.z.div hn h0⟩
theorem Qq.ok.canon (h : q.ok d) (h0 : q.first.p ≠ 0) : q.canon.ok (d + d) := by unfold Qq.canon; rw [if_neg h0]; exact h.over h.first h0
theorem Qq.ok.hamW (h : p.ok d) (k : q.ok e) : (p.hamW q).ok (22 * (d + e) + 7) := ((h.w.mul k.w).sub (h.axis.dot k.axis)).mono (by omega)
theorem Qq.ok.hamV (h : p.ok d) (k : q.ok e) : (p.hamV q).ok (16 * (d + e) + 5) := (((k.axis.scale h.w).add (h.axis.scale k.w)).add (h.axis.cross k.axis)).mono (by omega)
theorem Qq.ok.ham (h : p.ok d) (k : q.ok e) : (p.ham q).ok (22 * (d + e) + 7) := ⟨h.hamW k, (h.hamV k).x.mono (by omega), (h.hamV k).y.mono (by omega), (h.hamV k).z.mono (by omega)⟩
theorem Qq.ok.mul (h : p.ok d) (k : q.ok e) (h0 : (p.ham q).first.p ≠ 0) : (p.mul q).ok (44 * (d + e) + 14) := ((h.ham k).canon h0).mono (by omega)
end
end Go.Proofs.YthebfmlfgfmlnaaGreatDoor
namespace Go.Proofs.YthebfmlfgfmlnaaGreatDoor
set_option linter.unusedSimpArgs false
set_option linter.unusedVariables false
set_option maxRecDepth 100000
open Go.RowKit
/-- A fraction of rows as a value. -/
def Sp.frR (s : Bool) (L p N q : Nat) : Sp := ⟨fun w v => IsFR w v s L p N q, fun _ _ _ h hb => IsFR.mono h hb⟩
/-- A slice of length L. -/
def Sp.sl (L : Nat) : Sp := ⟨fun _ v => ∃ a c, v = .slice a L c, fun _ _ _ h _ => h⟩
section
variable {Q : Exit → Act → World → Prop} {o : Oper} {a : Act} {w : World} {x y : Operand} {g L p N q k : Nat} {s : Bool}
end
/-- Which fractions the laws look at. -/
def FitP (s : Bool) (L p N q : Nat) : Prop := L ≤ 12 ∧ N ≤ 12 ∧ nl p = L ∧ nl q = N ∧ (Fq.mk s p q).valid = true
theorem FitP.ok {s : Bool} {L p N q : Nat} (h : FitP s L p N q) : (Fq.mk s p q).ok 12 := ⟨by show nl p ≤ 12; have := h.1; have := h.2.2.1; omega, by show nl q ≤ 12; have := h.2.1; have := h.2.2.2.1; omega, (of_decide_eq_true h.2.2.2.2).1⟩
-- constants of the examples
end Go.Proofs.YthebfmlfgfmlnaaGreatDoor
namespace Go.Proofs.YthebfmlfgfmlnaaGreatDoor
set_option linter.unusedSimpArgs false
set_option linter.unusedVariables false
set_option maxRecDepth 100000
open Go.RowKit
/-- A fraction of rows, leading zeros allowed. -/
structure Rq where
  s : Bool
  L : Nat
  p : Nat
  N : Nat
  q : Nat
def Fq.raw (x : Fq) : Rq := ⟨x.s, nl x.p, x.p, nl x.q, x.q⟩
def Sp.rq (r : Rq) : Sp := .frR r.s r.L r.p r.N r.q
/-- The cells of a row of fractions. -/
def CellsR (w : World) : List Rq → List Value → Prop
  | [], cs => cs = []
  | r :: l, cs => ∃ a c b d cs', cs = .bool r.s :: .slice a r.L c :: .slice b r.N d :: cs' ∧ IsR w (.agg #[.slice a r.L c]) r.L r.p ∧ IsR w (.agg #[.slice b r.N d]) r.N r.q ∧ CellsR w l cs'
section
variable {w w' : World} {g g' : Nat} {l : List Rq} {cs : List Value} {T : TypeId}
theorem CellsR.mono (h : CellsR w l cs) (hb : Below w.heap.size w w') : CellsR w' l cs := by
  induction l generalizing cs with
  | nil => exact h
  | cons r l ih => obtain ⟨a, c, b, d, cs', e, h1, h2, h3⟩ := h; exact ⟨a, c, b, d, cs', e, h1.mono hb, h2.mono hb, ih h3⟩
theorem CellsR.upd (h : CellsR w l cs) (o : Own w g) (u : Upd w g w') : CellsR w' l cs := by
  induction l generalizing cs with
  | nil => exact h
  | cons r l ih => obtain ⟨a, c, b, d, cs', e, h1, h2, h3⟩ := h; exact ⟨a, c, b, d, cs', e, h1.upd o u, h2.upd o u, ih h3⟩
theorem CellsR.noInt (h : CellsR w l cs) (k : Nat) (n : Int) : cs[k]? ≠ some (Value.int .u32 n) := by
  induction l generalizing cs k with
  | nil => have e : cs = [] := h; rw [e]; simp
  | cons r l ih =>
    obtain ⟨a, c, b, d, cs', e, _, _, h3⟩ := h
    rw [e]
    match k with
    | 0 => intro h; cases h
    | 1 => intro h; cases h
    | 2 => intro h; cases h
    | k + 3 => exact ih h3 k
theorem CellsR.length (h : CellsR w l cs) : cs.length = 3 * l.length := by
  induction l generalizing cs with
  | nil => have e : cs = [] := h; rw [e]; rfl
  | cons r l ih => obtain ⟨a, c, b, d, cs', e, _, _, h3⟩ := h; have := ih h3; rw [e]; simp only [List.length_cons]; omega
theorem CellsR.get (h : CellsR w l cs) {k : Nat} {r : Rq} (hk : l[k]? = some r) :
    ∃ a c b d, cs[3 * k]? = some (.bool r.s) ∧ cs[3 * k + 1]? = some (.slice a r.L c) ∧ cs[3 * k + 2]? = some (.slice b r.N d) ∧ IsR w (.agg #[.slice a r.L c]) r.L r.p ∧ IsR w (.agg #[.slice b r.N d]) r.N r.q := by
  induction l generalizing cs k with
  | nil => cases hk
  | cons x l ih =>
    obtain ⟨a, c, b, d, cs', e, h1, h2, h3⟩ := h
    rw [e]
    match k with
    | 0 => simp at hk; subst hk; exact ⟨a, c, b, d, rfl, rfl, rfl, h1, h2⟩
    | k + 1 =>
      obtain ⟨a', c', b', d', e0, e1, e2, i1, i2⟩ := ih h3 (k := k) (by simpa using hk)
      exact ⟨a', c', b', d', by simpa [Nat.mul_add] using e0, by simpa [Nat.mul_add] using e1, by simpa [Nat.mul_add] using e2, i1, i2⟩
/-- A part of a row is replaced. -/
theorem CellsR.set (h : CellsR w l cs) {k : Nat} {r : Rq} (hk : k < l.length) {a b : Option Addr} {c d : Nat} (h1 : IsR w (.agg #[.slice a r.L c]) r.L r.p) (h2 : IsR w (.agg #[.slice b r.N d]) r.N r.q) :
    CellsR w (l.set k r) (((cs.set (3 * k) (.bool r.s)).set (3 * k + 1) (.slice a r.L c)).set (3 * k + 2) (.slice b r.N d)) := by
  induction l generalizing cs k with
  | nil => cases hk
  | cons x l ih =>
    obtain ⟨a', c', b', d', cs', e, i1, i2, i3⟩ := h
    rw [e]
    match k with
    | 0 => exact ⟨a, c, b, d, cs', rfl, h1, h2, i3⟩
    | k + 1 =>
      have := ih i3 (k := k) (by simpa using hk)
      exact ⟨a', c', b', d', _, by simp [Nat.mul_add], i1, i2, this⟩
def IsL (w : World) (v : Value) (l : List Rq) : Prop := ∃ cs, v = .agg cs.toArray ∧ CellsR w l cs
def VarL (T : TypeId) (w : World) (g : Nat) (l : List Rq) : Prop := ∃ cs, w.heap[g]? = some (.cells cs.toArray T (0, 0)) ∧ CellsR w l cs
theorem IsL.mono {v : Value} (h : IsL w v l) (hb : Below w.heap.size w w') : IsL w' v l := by obtain ⟨cs, e, h⟩ := h; exact ⟨cs, e, h.mono hb⟩
theorem IsL.upd {v : Value} (h : IsL w v l) (o : Own w g) (u : Upd w g w') : IsL w' v l := by obtain ⟨cs, e, h⟩ := h; exact ⟨cs, e, h.upd o u⟩
theorem VarL.lt (h : VarL T w g l) : g < w.heap.size := by obtain ⟨_, h, _⟩ := h; exact (Array.getElem?_eq_some_iff.1 h).1
theorem VarL.mono (h : VarL T w g l) (hb : Below w.heap.size w w') : VarL T w' g l := by
  have hl := h.lt
  obtain ⟨cs, h0, h1⟩ := h; exact ⟨cs, (hb.block g hl).trans h0, h1.mono hb⟩
theorem VarL.upd (h : VarL T w g' l) (o : Own w g) (u : Upd w g w') (hn : g' ≠ g) : VarL T w' g' l := by
  obtain ⟨cs, h0, h1⟩ := h; exact ⟨cs, (u.block g' hn).trans h0, h1.upd o u⟩
theorem VarL.own (h : VarL T w g l) : Own w g := by
  obtain ⟨cs, h0, h1⟩ := h
  exact ⟨cs.toArray, T, h0, fun k n => by rw [List.getElem?_toArray]; exact h1.noInt k n⟩
theorem VarL.get (h : VarL T w g l) {k : Nat} {r : Rq} (hk : l[k]? = some r) :
    ∃ a c b d, w.cell? ⟨g, 3 * k, none⟩ = some (.bool r.s) ∧ w.cell? ⟨g, 3 * k + 1, none⟩ = some (.slice a r.L c) ∧ w.cell? ⟨g, 3 * k + 2, none⟩ = some (.slice b r.N d) ∧ IsR w (.agg #[.slice a r.L c]) r.L r.p ∧ IsR w (.agg #[.slice b r.N d]) r.N r.q := by
  obtain ⟨cs, h0, h1⟩ := h
  obtain ⟨a, c, b, d, e0, e1, e2, i1, i2⟩ := h1.get hk
  exact ⟨a, c, b, d, by rw [cell_of_row w g _ _ _ (0, 0) h0, List.getElem?_toArray]; exact e0, by rw [cell_of_row w g _ _ _ (0, 0) h0, List.getElem?_toArray]; exact e1, by rw [cell_of_row w g _ _ _ (0, 0) h0, List.getElem?_toArray]; exact e2, i1, i2⟩
theorem VarL.frozen (h : VarL T w g l) (j : Nat) : w.frozen? ⟨g, j, none⟩ = false := by obtain ⟨cs, h0, _⟩ := h; exact frozen_of_row w g j _ _ h0
end
section
variable {Q : Exit → Act → World → Prop} {o : Oper} {a : Act} {w : World} {x y : Operand} {g k : Nat} {l : List Rq} {r : Rq} {T : TypeId}
end
section
variable {Q : Exit → Act → World → Prop} {o : Oper} {a : Act} {w : World} {x y z u : Operand} {f : FuncId} {tt : Array TypeId} {S S1 S2 S3 : Sp} {R : World → Ending → World → Prop}
end
end Go.Proofs.YthebfmlfgfmlnaaGreatDoor
namespace Go.Proofs.YthebfmlfgfmlnaaGreatDoor
set_option linter.unusedSimpArgs false
set_option linter.unusedVariables false
set_option maxRecDepth 100000
open Go.RowKit
def fr3 (x : Fq) : Rho := [.val (.bool x.s), .dig (nl x.p) x.p, .dig (nl x.q) x.q]
def frs : List Fq → Rho
  | [] => []
  | x :: xs => .val (.bool x.s) :: .dig (nl x.p) x.p :: .dig (nl x.q) x.q :: frs xs
def leaf3 (k : Nat) : List Leaf := [.ref (3 * k), .ref (3 * k + 1), .ref (3 * k + 2)]
def fr (k : Nat) : SV := .agg (leaf3 k)
def leafs : List Nat → List Leaf
  | [] => []
  | k :: ks => .ref (3 * k) :: .ref (3 * k + 1) :: .ref (3 * k + 2) :: leafs ks
def row (ks : List Nat) : SV := .agg (leafs ks)
def AtL (xs : List Fq) : List Nat → List Fq → Prop
  | [], [] => True
  | k :: ks, x :: vs => xs[k]? = some x ∧ AtL xs ks vs
  | _, _ => False
section
variable {xs : List Fq} {ys : Rho} {x y z : Fq} {i j k : Nat} {B : Blk} {w : World} {v : Value}
theorem frs_at : ∀ {xs : List Fq} {k : Nat} {x : Fq}, xs[k]? = some x → (frs xs ++ ys)[3 * k]? = some (.val (.bool x.s)) ∧ (frs xs ++ ys)[3 * k + 1]? = some (.dig (nl x.p) x.p) ∧ (frs xs ++ ys)[3 * k + 2]? = some (.dig (nl x.q) x.q)
  | [], _, _, h => by simp at h
  | x :: xs, 0, y, h => by simp at h; subst h; exact ⟨rfl, rfl, rfl⟩
  | x :: xs, k + 1, y, h => by
    have := frs_at (xs := xs) (k := k) (x := y) (by simpa using h)
    simpa [frs, Nat.mul_add] using this
theorem leaf_s {s : Bool} (h : (frs xs ++ ys)[i]? = some (.val (.bool s))) : (Leaf.ref i).holds (frs xs ++ ys) B w v ↔ v = .bool s := leafB h
theorem leaf_d {L N : Nat} (h : (frs xs ++ ys)[i]? = some (.dig L N)) : (Leaf.ref i).holds (frs xs ++ ys) B w v ↔ IsR w (.agg #[v]) L N := leafD h
theorem isR_slice {L N : Nat} (h : IsR w (.agg #[v]) L N) : ∃ a c, v = .slice a L c := by
  obtain ⟨a, c, e, _⟩ := h
  have e2 : v = .slice a L c := by
    injection e with e
    have := congrArg (fun x : Array Value => x[0]?) e
    simpa using this
  exact ⟨a, c, e2⟩
theorem row_holds : ∀ {ks : List Nat} {vs : List Fq} {cs : List Value}, AtL xs ks vs → (LeavesH (frs xs ++ ys) B w (leafs ks) cs ↔ CellsR w (vs.map Fq.raw) cs)
  | [], [], cs, _ => by
    constructor
    · intro h; match cs, h with | [], _ => rfl
    · intro h; have h : cs = [] := h; subst h; trivial
  | k :: ks, x :: vs, cs, h => by
    obtain ⟨h1, h2, h3⟩ := frs_at (ys := ys) h.1
    have ih := fun cs => row_holds (ks := ks) (vs := vs) (cs := cs) h.2
    constructor
    · intro hl
      match cs, hl with
      | u1 :: u2 :: u3 :: cs', hl =>
        obtain ⟨g1, g2, g3, g4⟩ := hl
        have e1 := (leaf_s h1).1 g1
        have e2 := (leaf_d h2).1 g2
        have e3 := (leaf_d h3).1 g3
        obtain ⟨a, c, rfl⟩ := isR_slice e2
        obtain ⟨b, d, rfl⟩ := isR_slice e3
        subst e1
        exact ⟨a, c, b, d, cs', rfl, e2, e3, (ih cs').1 g4⟩
      | [], hl => exact hl.elim
      | [_], hl => exact hl.2.elim
      | [_, _], hl => exact hl.2.2.elim
    · rintro ⟨a, c, b, d, cs', rfl, i1, i2, i3⟩
      exact ⟨(leaf_s h1).2 rfl, (leaf_d h2).2 i1, (leaf_d h3).2 i2, (ih cs').2 i3⟩
  | [], _ :: _, _, h => h.elim
  | _ :: _, [], _, h => h.elim
theorem row_isL {ks : List Nat} {vs : List Fq} (h : AtL xs ks vs) : (row ks).holds (frs xs ++ ys) B w v ↔ IsL w v (vs.map Fq.raw) := by
  constructor
  · rintro ⟨cs, rfl, h1⟩; exact ⟨cs, rfl, (row_holds h).1 h1⟩
  · rintro ⟨cs, rfl, h1⟩; exact ⟨cs, rfl, (row_holds h).2 h1⟩
theorem fr_isQ (h : xs[k]? = some x) : (fr k).holds (frs xs ++ ys) B w v ↔ IsQ w v x := by
  have := row_isL (ys := ys) (B := B) (w := w) (v := v) (ks := [k]) (vs := [x]) ⟨h, trivial⟩
  show (row [k]).holds _ B w v ↔ _
  rw [this]
  constructor
  · rintro ⟨cs, rfl, a, c, b, d, cs', rfl, i1, i2, e⟩
    have e : cs' = [] := e
    subst e
    exact ⟨a, c, b, d, rfl, i1, i2⟩
  · rintro ⟨a, c, b, d, rfl, i1, i2⟩
    exact ⟨_, rfl, a, c, b, d, [], rfl, i1, i2, rfl⟩
abbrev OkI (xs : List Fq) (ys : Rho) (i : Inst) : Prop := i.Ok Tryz.prog (frs xs ++ ys)
theorem inst1 {f : FuncId} (hen : Ent' f) (hc : ∀ va w, IsQ w va x → Calls Tryz.prog f #[va] w (fun e w' => RetQ w z e w')) (hi : xs[i]? = some x) (hk : xs[k]? = some z) : OkI xs ys ⟨f, [fr i], .v (fr k)⟩ :=
  ⟨hen, fun B w vs hB h => by
    match vs, h with
    | [va], h =>
      refine (hc va w ((fr_isQ hi).1 h.1)).mono ?_
      rintro e w' ⟨v, rfl, h1, h2⟩
      exact ⟨v, rfl, (fr_isQ hk).2 h1, h2⟩⟩
theorem inst2 {f : FuncId} (hen : Ent' f) (hc : ∀ va vb w, IsQ w va x → IsQ w vb y → Calls Tryz.prog f #[va, vb] w (fun e w' => RetQ w z e w')) (hi : xs[i]? = some x) (hj : xs[j]? = some y) (hk : xs[k]? = some z) : OkI xs ys ⟨f, [fr i, fr j], .v (fr k)⟩ :=
  ⟨hen, fun B w vs hB h => by
    match vs, h with
    | [va, vb], h =>
      refine (hc va vb w ((fr_isQ hi).1 h.1) ((fr_isQ hj).1 h.2.1)).mono ?_
      rintro e w' ⟨v, rfl, h1, h2⟩
      exact ⟨v, rfl, (fr_isQ hk).2 h1, h2⟩⟩
end
end Go.Proofs.YthebfmlfgfmlnaaGreatDoor
namespace Go.Proofs.YthebfmlfgfmlnaaGreatDoor
set_option linter.unusedSimpArgs false
set_option linter.unusedVariables false
set_option maxRecDepth 100000
open Go.RowKit
section
variable {xs : List Fq} {ys ρ : Rho} {x y z : Fq} {i j k n : Nat} {u c : Int} {b d : Bool} {l : Leaf} {f : FuncId} {op : BinOp} {t : TypeId}
theorem inst1V {v : Value} (hen : Ent' f) (hc : ∀ va w, IsQ w va x → Calls Tryz.prog f #[va] w (fun e w' => RetV w v e w')) (hi : xs[i]? = some x) (hl : ∀ B w, l.holds (frs xs ++ ys) B w v) : OkI xs ys ⟨f, [fr i], .v (.one l)⟩ :=
  ⟨hen, fun B w vs hB h => by
    match vs, h with
    | [va], h =>
      refine (hc va w ((fr_isQ hi).1 h.1)).mono ?_
      rintro e w' ⟨rfl, h2⟩
      exact ⟨_, rfl, hl B w', h2⟩⟩
theorem inst2V {v : Value} (hen : Ent' f) (hc : ∀ va vb w, IsQ w va x → IsQ w vb y → Calls Tryz.prog f #[va, vb] w (fun e w' => RetV w v e w')) (hi : xs[i]? = some x) (hj : xs[j]? = some y) (hl : ∀ B w, l.holds (frs xs ++ ys) B w v) : OkI xs ys ⟨f, [fr i, fr j], .v (.one l)⟩ :=
  ⟨hen, fun B w vs hB h => by
    match vs, h with
    | [va, vb], h =>
      refine (hc va vb w ((fr_isQ hi).1 h.1) ((fr_isQ hj).1 h.2.1)).mono ?_
      rintro e w' ⟨rfl, h2⟩
      exact ⟨_, rfl, hl B w', h2⟩⟩
theorem inst2E (hen : Ent' f) (hc : ∀ va vb w, IsQ w va x → IsQ w vb y → Calls Tryz.prog f #[va, vb] w (fun e w' => RetQE w z c e w')) (hi : xs[i]? = some x) (hj : xs[j]? = some y) (hk : xs[k]? = some z) : OkI xs ys ⟨f, [fr i, fr j], .tup [fr k, .one (.i .i64 c)]⟩ :=
  ⟨hen, fun B w vs hB h => by
    match vs, h with
    | [va, vb], h =>
      refine (hc va vb w ((fr_isQ hi).1 h.1) ((fr_isQ hj).1 h.2.1)).mono ?_
      rintro e w' ⟨v, rfl, h1, h2⟩
      exact ⟨_, rfl, ⟨[v, .int .i64 c], rfl, (fr_isQ hk).2 h1, rfl, trivial⟩, h2⟩⟩
theorem instIQ (hen : Ent' f) (hc : ∀ w, Calls Tryz.prog f #[.int .i64 u] w (fun e w' => RetQ w z e w')) (hk : xs[k]? = some z) : OkI xs ys ⟨f, [.one (.i .i64 u)], .v (fr k)⟩ :=
  ⟨hen, fun B w vs hB h => by
    match vs, h with
    | [va], h =>
      have e : va = .int .i64 u := h.1
      subst e
      refine (hc w).mono ?_
      rintro e w' ⟨v, rfl, h1, h2⟩
      exact ⟨v, rfl, (fr_isQ hk).2 h1, h2⟩⟩
theorem I_fMul (hi : xs[i]? = some x) (hj : xs[j]? = some y) (hk : xs[k]? = some (x.mul y)) (ox : x.ok 1000000000) (oy : y.ok 1000000000) : OkI xs ys ⟨115, [fr i, fr j], .v (fr k)⟩ :=
  inst2 (enters Tryz.func115 rfl rfl) (fun va vb w h1 h2 => q_fMul va vb x y w h1 h2 ox oy) hi hj hk
theorem I_fAdd (hi : xs[i]? = some x) (hj : xs[j]? = some y) (hk : xs[k]? = some (x.add y)) (ox : x.ok 1000000000) (oy : y.ok 1000000000) : OkI xs ys ⟨108, [fr i, fr j], .v (fr k)⟩ :=
  inst2 (enters Tryz.func108 rfl rfl) (fun va vb w h1 h2 => q_fAdd va vb x y w h1 h2 ox oy) hi hj hk
theorem I_fSub (hi : xs[i]? = some x) (hj : xs[j]? = some y) (hk : xs[k]? = some (x.sub y)) (ox : x.ok 1000000000) (oy : y.ok 1000000000) : OkI xs ys ⟨106, [fr i, fr j], .v (fr k)⟩ :=
  inst2 (enters Tryz.func106 rfl rfl) (fun va vb w h1 h2 => q_fSub va vb x y w h1 h2 ox oy) hi hj hk
theorem I_fDiv (hi : xs[i]? = some x) (hj : xs[j]? = some y) (hk : xs[k]? = some (x.div y)) (ox : x.ok 1000000000) (oy : y.ok 1000000000) (h0 : y.p ≠ 0) : OkI xs ys ⟨159, [fr i, fr j], .tup [fr k, .one (.i .i64 0)]⟩ :=
  inst2E (enters Tryz.func159 rfl rfl) (fun va vb w h1 h2 => q_fDiv va vb x y w h1 h2 ox oy h0) hi hj hk
theorem I_fSign (hi : xs[i]? = some x) (hl : ∀ B w, l.holds (frs xs ++ ys) B w (.int .i64 x.sgn)) (ox : x.ok 1000000000000) : OkI xs ys ⟨86, [fr i], .v (.one l)⟩ :=
  inst1V (enters Tryz.func86 rfl rfl) (fun va w h1 => q_fSign va x w h1 ox) hi hl
theorem I_fCmp (hi : xs[i]? = some x) (hj : xs[j]? = some y) (hl : ∀ B w, l.holds (frs xs ++ ys) B w (.int .i64 (x.cmp y))) (ox : x.ok 1000000000) (oy : y.ok 1000000000) : OkI xs ys ⟨87, [fr i, fr j], .v (.one l)⟩ :=
  inst2V (enters Tryz.func87 rfl rfl) (fun va vb w h1 h2 => q_fCmp va vb x y w h1 h2 ox oy) hi hj hl
theorem I_fInt (hk : xs[k]? = some (.ofInt u)) (lu : -9223372036854775808 ≤ u) (ru : u < 9223372036854775808) : OkI xs ys ⟨68, [.one (.i .i64 u)], .v (fr k)⟩ :=
  instIQ (enters Tryz.func68 rfl rfl) (fun w => q_fInt u w lu ru) hk
theorem I_fValid (hi : xs[i]? = some x) (hl : ∀ B w, l.holds (frs xs ++ ys) B w (.bool x.valid)) (ox : x.ok 1000000) : OkI xs ys ⟨85, [fr i], .v (.one l)⟩ :=
  inst1V (enters Tryz.func85 rfl rfl) (fun va w h1 => q_fValid va x w h1 ox.p ox.q) hi hl
theorem I_rMul (hi : xs[i]? = some x) (hj : xs[j]? = some y) (hk : xs[k]? = some (x.mul y)) (ox : x.ok 1000000000) (oy : y.ok 1000000000) : OkI xs ys ⟨58, [fr i, fr j], .v (fr k)⟩ :=
  inst2 (enters Tryz.func58 rfl rfl) (fun va vb w h1 h2 => q_rMul va vb x y w h1 h2 ox oy) hi hj hk
theorem I_rAdd (hi : xs[i]? = some x) (hj : xs[j]? = some y) (hk : xs[k]? = some (x.add y)) (ox : x.ok 1000000000) (oy : y.ok 1000000000) : OkI xs ys ⟨57, [fr i, fr j], .v (fr k)⟩ :=
  inst2 (enters Tryz.func57 rfl rfl) (fun va vb w h1 h2 => q_rAdd va vb x y w h1 h2 ox oy) hi hj hk
theorem I_rSub (hi : xs[i]? = some x) (hj : xs[j]? = some y) (hk : xs[k]? = some (x.sub y)) (ox : x.ok 1000000000) (oy : y.ok 1000000000) : OkI xs ys ⟨53, [fr i, fr j], .v (fr k)⟩ :=
  inst2 (enters Tryz.func53 rfl rfl) (fun va vb w h1 h2 => q_rSub va vb x y w h1 h2 ox oy) hi hj hk
theorem I_rNeg (hi : xs[i]? = some x) (hk : xs[k]? = some x.neg) (ox : x.ok 1000000000) : OkI xs ys ⟨104, [fr i], .v (fr k)⟩ :=
  inst1 (enters Tryz.func104 rfl rfl) (fun va w h1 => q_rNeg va x w h1 ox) hi hk
theorem I_rDiv (hi : xs[i]? = some x) (hj : xs[j]? = some y) (hk : xs[k]? = some (x.div y)) (ox : x.ok 1000000000) (oy : y.ok 1000000000) (h0 : y.p ≠ 0) : OkI xs ys ⟨160, [fr i, fr j], .tup [fr k, .one (.i .i64 0)]⟩ :=
  inst2E (enters Tryz.func160 rfl rfl) (fun va vb w h1 h2 => q_rDiv va vb x y w h1 h2 ox oy h0) hi hj hk
theorem I_rSign (hi : xs[i]? = some x) (hl : ∀ B w, l.holds (frs xs ++ ys) B w (.int .i64 x.sgn)) (ox : x.ok 1000000000000) : OkI xs ys ⟨132, [fr i], .v (.one l)⟩ :=
  inst1V (enters Tryz.func132 rfl rfl) (fun va w h1 => q_rSign va x w h1 ox) hi hl
theorem I_rInt (hk : xs[k]? = some (.ofInt u)) (lu : -9223372036854775808 ≤ u) (ru : u < 9223372036854775808) : OkI xs ys ⟨38, [.one (.i .i64 u)], .v (fr k)⟩ :=
  instIQ (enters Tryz.func38 rfl rfl) (fun w => q_rInt u w lu ru) hk
theorem I_rValid (hi : xs[i]? = some x) (hl : ∀ B w, l.holds (frs xs ++ ys) B w (.bool x.valid)) (ox : x.ok 1000000) : OkI xs ys ⟨77, [fr i], .v (.one l)⟩ :=
  inst1V (enters Tryz.func77 rfl rfl) (fun va w h1 => q_rValid va x w h1 ox.p ox.q) hi hl
theorem I_rSame (hi : xs[i]? = some x) (hj : xs[j]? = some y) (hl : ∀ B w, l.holds (frs xs ++ ys) B w (.bool (x.same y))) (hp : nl x.p ≤ 1000000000000) (hq : nl x.q ≤ 1000000000000) (kp : nl y.p ≤ 1000000000000) (kq : nl y.q ≤ 1000000000000) : OkI xs ys ⟨21, [fr i, fr j], .v (.one l)⟩ :=
  inst2V (enters Tryz.func21 rfl rfl) (fun va vb w h1 h2 => q_SameB va vb x y w h1 h2 hp hq kp kq) hi hj hl
theorem sgn0 (h : x.p = 0) : x.sgn = 0 := by unfold Fq.sgn; rw [if_pos h]
theorem sgn_ne {x : Fq} : x.sgn ≠ 0 ↔ x.p ≠ 0 := by
  unfold Fq.sgn
  by_cases h : x.p = 0
  · rw [if_pos h]; simp [h]
  · rw [if_neg h]; simp only [ne_eq, h, not_false_eq_true, iff_true]; split <;> decide
theorem sgn_eq (h : x.p ≠ 0) : (x.sgn == 0) = false := by have := sgn_ne.2 h; simpa using this
theorem sgn_nq (h : x.p ≠ 0) : (x.sgn != 0) = true := by have := sgn_ne.2 h; simpa using this
theorem ne_eql (h : u ≠ c) : (u == c) = false := by simpa using h
theorem ne_neq (h : u ≠ c) : (u != c) = true := by simpa using h
theorem isR00 (w : World) : IsR w (.agg #[.slice none 0 0]) 0 0 := ⟨none, 0, rfl, Nat.le_refl _, by simp, fun h => by omega⟩
theorem zero_row {B : Blk} {w : World} : ∀ {n : Nat} {cs : List Value}, LeavesH ρ B w (List.replicate n [Leaf.b false, .sl0, .sl0]).flatten cs → CellsR w (List.replicate n Fq.zero.raw) cs
  | 0, cs, h => by
    match cs, h with
    | [], _ => rfl
  | n + 1, cs, h => by
    match cs, h with
    | u1 :: u2 :: u3 :: cs', h =>
      obtain ⟨g1, g2, g3, g4⟩ := h
      have e1 : u1 = .bool false := g1
      have e2 : u2 = .slice none 0 0 := g2
      have e3 : u3 = .slice none 0 0 := g3
      subst e1; subst e2; subst e3
      have hz : nl 0 = 0 := nl_zero
      refine ⟨none, 0, none, 0, cs', ?_, ?_, ?_, zero_row (n := n) g4⟩
      · simp [Fq.raw, Fq.zero, hz]
      · simp only [Fq.raw, Fq.zero, hz]; exact isR00 w
      · simp only [Fq.raw, Fq.zero, hz]; exact isR00 w
    | [], h => exact h.elim
    | [_], h => exact h.2.elim
    | [_, _], h => exact h.2.2.elim
end
end Go.Proofs.YthebfmlfgfmlnaaGreatDoor
