/- The plain law of fractions: what they stand for (rational numbers), and the laws of a field, of the order, of Lerp and of Floor. The plain law of vectors of fractions. The plain law of rotations, in rational numbers: quaternions up to a factor, and how they turn vectors. The plain law of rotations, in fractions. The plain law of rotations: images, ways, from one vector to another. How large the parts of vectors and rotations become. Arms, facts about the examples, Same. Rows of fractions in memory: vectors, quaternions, arrays of fractions. An executor: fractions and rows of fractions. An executor: what the functions of package fraction and of the reference give. Texts of fractions, by the executor. Parse of the reference of fractions, by the executor. The plain law of the texts of fractions: what is read is what is written. Texts with two spaces: what strings.Count and strings.Split give. The calls of package strings, of fraction's texts, for the executor. The call of strings.Join. -/
import Derived.Test.YthebfmlfgfmlnaaGreatDoorP10
import Derived.Lib.SplitLaws
import Derived.Lib.IndexBytes
import Derived.Shelf.Strings.OnBuilder
namespace Go.Proofs.YthebfmlfgfmlnaaGreatDoor
set_option linter.unusedSimpArgs false
set_option linter.unusedVariables false
set_option maxRecDepth 100000
open Go Go.Proofs
/-- The number that a fraction stands for. -/
def Fq.sg (s : Bool) (m : Nat) : Int := if s then -(m : Int) else m
def Fq.v (x : Fq) : Rat := mkRat (Fq.sg x.s x.p) x.q
theorem low_v {s : Bool} {m n : Nat} (h : n ≠ 0) : (Fq.low s m n).v = mkRat (Fq.sg s m) n := by
  unfold Fq.v Fq.low
  simp only
  have hg : 0 < Nat.gcd m n := Nat.gcd_pos_of_pos_right _ (Nat.pos_of_ne_zero h)
  have h1 : Nat.gcd m n * lowP m n = m := Nat.mul_div_cancel' (Nat.gcd_dvd_left _ _)
  have h2 : Nat.gcd m n * lowQ m n = n := Nat.mul_div_cancel' (Nat.gcd_dvd_right _ _)
  have h3 : lowQ m n ≠ 0 := by intro h3; rw [h3, Nat.mul_zero] at h2; exact h h2.symm
  rw [Rat.mkRat_eq_iff h3 h]
  have hs : Fq.sg (lowS s m) (lowP m n) = Fq.sg s (lowP m n) := by
    unfold lowS Fq.sg
    by_cases hm : m = 0
    · subst hm; simp [lowP]
    · simp [hm]
  rw [hs]
  generalize hP : lowP m n = P at *
  generalize hQ : lowQ m n = R at *
  generalize Nat.gcd m n = g at *
  subst h1; subst h2
  unfold Fq.sg
  cases s <;> simp only [Bool.false_eq_true, if_true, if_false] <;> grind
theorem low_valid {s : Bool} {m n : Nat} (h : n ≠ 0) : (Fq.low s m n).valid = true := by
  unfold Fq.valid
  have hg : 0 < Nat.gcd m n := Nat.gcd_pos_of_pos_right _ (Nat.pos_of_ne_zero h)
  have h1 : Nat.gcd m n * lowP m n = m := Nat.mul_div_cancel' (Nat.gcd_dvd_left _ _)
  have h2 : Nat.gcd m n * lowQ m n = n := Nat.mul_div_cancel' (Nat.gcd_dvd_right _ _)
  refine decide_eq_true ⟨?_, ?_, ?_⟩
  · show lowQ m n ≠ 0
    intro h3; rw [h3, Nat.mul_zero] at h2; exact h h2.symm
  · show ¬(lowS s m = true ∧ lowP m n = 0)
    rintro ⟨h3, h4⟩
    rw [h4, Nat.mul_zero] at h1
    rw [← h1] at h3; simp [lowS] at h3
  · exact Nat.coprime_div_gcd_div_gcd hg
theorem Fq.valid.n {x : Fq} (h : x.valid = true) : x.q ≠ 0 := (of_decide_eq_true h).1
theorem Fq.valid.s {x : Fq} (h : x.valid = true) : ¬(x.s = true ∧ x.p = 0) := (of_decide_eq_true h).2.1
theorem Fq.valid.g {x : Fq} (h : x.valid = true) : Nat.gcd x.p x.q = 1 := (of_decide_eq_true h).2.2
theorem sg_abs (s : Bool) (m : Nat) : (Fq.sg s m).natAbs = m := by unfold Fq.sg; cases s <;> simp
theorem sg_neg {s : Bool} {m : Nat} (h : ¬(s = true ∧ m = 0)) : decide (Fq.sg s m < 0) = s := by
  unfold Fq.sg
  cases s
  · simp
  · simp at h ⊢; omega
theorem v_num {x : Fq} (h : x.valid = true) : x.v.num = Fq.sg x.s x.p ∧ x.v.den = x.q := by
  have hn := Fq.valid.n h
  have hc : (Fq.sg x.s x.p).natAbs.Coprime x.q := by rw [sg_abs]; exact Fq.valid.g h
  have e : x.v = Rat.mk' (Fq.sg x.s x.p) x.q hn hc := (Rat.mk_eq_mkRat _ _ hn hc).symm
  rw [e]; exact ⟨rfl, rfl⟩
/-- Valid fractions of one value are one. -/
theorem v_inj {x y : Fq} (hx : x.valid = true) (hy : y.valid = true) (h : x.v = y.v) : x = y := by
  obtain ⟨a1, a2⟩ := v_num hx
  obtain ⟨b1, b2⟩ := v_num hy
  rw [h] at a1 a2
  have e1 : Fq.sg x.s x.p = Fq.sg y.s y.p := a1.symm.trans b1
  have ep : x.p = y.p := by rw [← sg_abs x.s x.p, e1, sg_abs]
  have es : x.s = y.s := by rw [← sg_neg (Fq.valid.s hx), e1, sg_neg (Fq.valid.s hy)]
  have eq : x.q = y.q := a2.symm.trans b2
  cases x; cases y; simp only at *; subst ep; subst es; subst eq; rfl
theorem sg_add (s s' : Bool) (X Y : Nat) : Fq.sg (addG s s' X Y) (addM s s' X Y) = Fq.sg s X + Fq.sg s' Y := by
  unfold Fq.sg addG addM
  by_cases h : s = s'
  · subst h; simp only [if_true]; cases s <;> simp <;> omega
  · simp only [h, if_false]
    by_cases hl : Y ≤ X
    · simp only [hl, if_true]; cases s <;> cases s' <;> simp at h ⊢ <;> omega
    · simp only [hl, if_false]; cases s <;> cases s' <;> simp at h ⊢ <;> omega
theorem sg_mul (s s' : Bool) (X Y : Nat) : Fq.sg (s != s') (X * Y) = Fq.sg s X * Fq.sg s' Y := by
  unfold Fq.sg
  cases s <;> cases s' <;> simp <;> grind
theorem sg_mulN (s : Bool) (X Y : Nat) : Fq.sg s (X * Y) = Fq.sg s X * (Y : Int) := by
  unfold Fq.sg
  cases s <;> simp <;> grind
theorem v_add {x y : Fq} (hx : x.q ≠ 0) (hy : y.q ≠ 0) : (x.add y).v = x.v + y.v := by
  unfold Fq.add
  rw [low_v (Nat.mul_ne_zero hx hy), sg_add, sg_mulN, sg_mulN]
  unfold Fq.v
  rw [Rat.mkRat_add_mkRat _ _ hx hy]
theorem v_mul {x y : Fq} (hx : x.q ≠ 0) (hy : y.q ≠ 0) : (x.mul y).v = x.v * y.v := by
  unfold Fq.mul
  rw [low_v (Nat.mul_ne_zero hx hy), sg_mul]
  unfold Fq.v
  rw [Rat.mkRat_mul_mkRat]
theorem v_neg {x : Fq} : x.neg.v = -x.v := by
  unfold Fq.neg Fq.v
  simp only
  rw [Rat.neg_mkRat]
  congr 1
  unfold Fq.sg lowS
  by_cases h : x.p = 0
  · rw [h]; simp
  · simp only [h, decide_false, Bool.not_false, Bool.and_true]; cases x.s <;> simp
theorem neg_valid {x : Fq} (h : x.valid = true) : x.neg.valid = true := by
  have h1 := Fq.valid.n h
  have h2 := Fq.valid.g h
  refine decide_eq_true ⟨h1, ?_, h2⟩
  show ¬(lowS (!x.s) x.p = true ∧ x.p = 0)
  rintro ⟨h1, h2⟩; rw [h2] at h1; simp [lowS] at h1
theorem v_sub {x y : Fq} (hx : x.q ≠ 0) (hy : y.q ≠ 0) : (x.sub y).v = x.v - y.v := by
  unfold Fq.sub
  rw [v_add hx (show y.neg.q ≠ 0 from hy), v_neg, Rat.sub_eq_add_neg]
theorem v_eq0 {x : Fq} (hx : x.q ≠ 0) : x.v = 0 ↔ x.p = 0 := by
  unfold Fq.v
  rw [Rat.mkRat_eq_zero hx]
  have := sg_abs x.s x.p
  constructor <;> intro h
  · rw [h] at this; exact this.symm
  · unfold Fq.sg; rw [h]; simp
theorem v_div {x y : Fq} (hx : x.q ≠ 0) (hy : y.q ≠ 0) (h0 : y.p ≠ 0) : (x.div y).v = x.v / y.v := by
  have hne : y.v ≠ 0 := fun h => h0 ((v_eq0 hy).1 h)
  have hm : (x.div y).v * y.v = x.v := by
    unfold Fq.div
    rw [low_v (Nat.mul_ne_zero hx h0)]
    unfold Fq.v
    rw [Rat.mkRat_mul_mkRat, Rat.mkRat_eq_iff (Nat.mul_ne_zero (Nat.mul_ne_zero hx h0) hy) hx]
    unfold Fq.sg
    cases x.s <;> cases y.s <;> simp <;> grind
  rw [← hm, Rat.div_def, Rat.mul_assoc, Rat.mul_inv_cancel _ hne, Rat.mul_one]
theorem v_ofInt (n : Int) : (Fq.ofInt n).v = (n : Rat) := by
  unfold Fq.ofInt Fq.v
  simp only
  rw [Rat.mkRat_one]
  congr 1
  unfold Fq.sg
  by_cases h : n < 0
  · simp [h]; omega
  · simp [h]; omega
theorem ofInt_valid (n : Int) : (Fq.ofInt n).valid = true := by
  refine decide_eq_true ⟨Nat.one_ne_zero, ?_, Nat.gcd_one_right _⟩
  show ¬(decide (n < 0) = true ∧ n.natAbs = 0)
  rintro ⟨h1, h2⟩; have := of_decide_eq_true h1; omega
theorem sgn_cases {x : Fq} (hx : x.valid = true) : (x.v < 0 ∧ x.sgn = -1) ∨ (x.v = 0 ∧ x.sgn = 0) ∨ (0 < x.v ∧ x.sgn = 1) := by
  have hn := (v_num hx).1
  have h0 := v_eq0 (Fq.valid.n hx)
  have hs := Fq.valid.s hx
  by_cases hp : x.p = 0
  · exact Or.inr (Or.inl ⟨h0.2 hp, by unfold Fq.sgn; rw [if_pos hp]⟩)
  · have hne : x.v ≠ 0 := fun h => hp (h0.1 h)
    rcases Bool.eq_false_or_eq_true x.s with h | h
    · refine Or.inl ⟨?_, by unfold Fq.sgn; rw [if_neg hp, if_pos h]⟩
      have h1 : ¬ (0 ≤ x.v) := by rw [← Rat.num_nonneg, hn, h]; unfold Fq.sg; simp; omega
      exact Rat.not_le.1 h1
    · refine Or.inr (Or.inr ⟨?_, by unfold Fq.sgn; rw [if_neg hp, h]; rfl⟩)
      have h1 : 0 ≤ x.v := by rw [← Rat.num_nonneg, hn, h]; unfold Fq.sg; simp
      grind
theorem add_valid {x y : Fq} (hx : x.valid = true) (hy : y.valid = true) : (x.add y).valid = true := low_valid (Nat.mul_ne_zero (Fq.valid.n hx) (Fq.valid.n hy))
theorem mul_valid {x y : Fq} (hx : x.valid = true) (hy : y.valid = true) : (x.mul y).valid = true := low_valid (Nat.mul_ne_zero (Fq.valid.n hx) (Fq.valid.n hy))
theorem sub_valid {x y : Fq} (hx : x.valid = true) (hy : y.valid = true) : (x.sub y).valid = true := add_valid hx (neg_valid hy)
theorem div_valid {x y : Fq} (hx : x.valid = true) (h0 : y.p ≠ 0) : (x.div y).valid = true := low_valid (Nat.mul_ne_zero (Fq.valid.n hx) h0)
theorem v_a {x y : Fq} (hx : x.valid = true) (hy : y.valid = true) : (x.add y).v = x.v + y.v := v_add (Fq.valid.n hx) (Fq.valid.n hy)
theorem v_m {x y : Fq} (hx : x.valid = true) (hy : y.valid = true) : (x.mul y).v = x.v * y.v := v_mul (Fq.valid.n hx) (Fq.valid.n hy)
theorem v_s {x y : Fq} (hx : x.valid = true) (hy : y.valid = true) : (x.sub y).v = x.v - y.v := v_sub (Fq.valid.n hx) (Fq.valid.n hy)
theorem cmp_cases {x y : Fq} (hx : x.valid = true) (hy : y.valid = true) : (x.v < y.v ∧ x.cmp y = -1) ∨ (x.v = y.v ∧ x.cmp y = 0) ∨ (y.v < x.v ∧ x.cmp y = 1) := by
  unfold Fq.cmp
  rcases sgn_cases (sub_valid hx hy) with ⟨h1, h2⟩ | ⟨h1, h2⟩ | ⟨h1, h2⟩ <;> rw [v_s hx hy] at h1
  · exact Or.inl ⟨by grind, h2⟩
  · exact Or.inr (Or.inl ⟨by grind, h2⟩)
  · exact Or.inr (Or.inr ⟨by grind, h2⟩)
section
variable {a b c t : Fq} (ha : a.valid = true) (hb : b.valid = true) (hc : c.valid = true) (ht : t.valid = true)
include ha hb
include hc
end
section
variable {a b t : Fq} (ha : a.valid = true) (hb : b.valid = true) (ht : t.valid = true)
include ha
include hb
theorem o_zero : a.cmp b = 0 ↔ a = b := by
  constructor
  · intro h; rcases cmp_cases ha hb with ⟨p1, p2⟩ | ⟨p1, p2⟩ | ⟨p1, p2⟩ <;> first | omega | exact v_inj ha hb p1
  · rintro rfl; rcases cmp_cases ha hb with ⟨p1, p2⟩ | ⟨p1, p2⟩ | ⟨p1, p2⟩ <;> first | exact p2 | grind
include ht
end
end Go.Proofs.YthebfmlfgfmlnaaGreatDoor
namespace Go.Proofs.YthebfmlfgfmlnaaGreatDoor
set_option linter.unusedSimpArgs false
set_option linter.unusedVariables false
set_option maxRecDepth 100000
open Go.RowKit
/-- A vector of fractions. -/
structure Vq where
  x : Fq
  y : Fq
  z : Fq
def Vq.add (a b : Vq) : Vq := ⟨a.x.add b.x, a.y.add b.y, a.z.add b.z⟩
def Vq.sub (a b : Vq) : Vq := ⟨a.x.sub b.x, a.y.sub b.y, a.z.sub b.z⟩
def Vq.scale (a : Vq) (k : Fq) : Vq := ⟨a.x.mul k, a.y.mul k, a.z.mul k⟩
def Vq.dot (a b : Vq) : Fq := (a.x.mul b.x).add ((a.y.mul b.y).add (a.z.mul b.z))
def Vq.cross (a b : Vq) : Vq := ⟨(a.y.mul b.z).sub (a.z.mul b.y), (a.z.mul b.x).sub (a.x.mul b.z), (a.x.mul b.y).sub (a.y.mul b.x)⟩
def Vq.of (x y z : Int) : Vq := ⟨.ofInt x, .ofInt y, .ofInt z⟩
structure Vq.good (a : Vq) : Prop where
  x : a.x.valid = true
  y : a.y.valid = true
  z : a.z.valid = true
section
variable {a b c : Vq} {k t : Fq}
theorem Vq.good.add (ha : a.good) (hb : b.good) : (a.add b).good := ⟨add_valid ha.x hb.x, add_valid ha.y hb.y, add_valid ha.z hb.z⟩
theorem Vq.good.sub (ha : a.good) (hb : b.good) : (a.sub b).good := ⟨sub_valid ha.x hb.x, sub_valid ha.y hb.y, sub_valid ha.z hb.z⟩
theorem Vq.good.scale (ha : a.good) (hk : k.valid = true) : (a.scale k).good := ⟨mul_valid ha.x hk, mul_valid ha.y hk, mul_valid ha.z hk⟩
theorem Vq.good.cross (ha : a.good) (hb : b.good) : (a.cross b).good := ⟨sub_valid (mul_valid ha.y hb.z) (mul_valid ha.z hb.y), sub_valid (mul_valid ha.z hb.x) (mul_valid ha.x hb.z), sub_valid (mul_valid ha.x hb.y) (mul_valid ha.y hb.x)⟩
theorem Vq.good.of (x y z : Int) : (Vq.of x y z).good := ⟨ofInt_valid x, ofInt_valid y, ofInt_valid z⟩
theorem dot_valid (ha : a.good) (hb : b.good) : (a.dot b).valid = true := add_valid (mul_valid ha.x hb.x) (add_valid (mul_valid ha.y hb.y) (mul_valid ha.z hb.z))
theorem dot_v (ha : a.good) (hb : b.good) : (a.dot b).v = a.x.v * b.x.v + (a.y.v * b.y.v + a.z.v * b.z.v) := by
  unfold Vq.dot
  rw [v_a (mul_valid ha.x hb.x) (add_valid (mul_valid ha.y hb.y) (mul_valid ha.z hb.z)), v_a (mul_valid ha.y hb.y) (mul_valid ha.z hb.z), v_m ha.x hb.x, v_m ha.y hb.y, v_m ha.z hb.z]
theorem add_v (ha : a.good) (hb : b.good) : (a.add b).x.v = a.x.v + b.x.v ∧ (a.add b).y.v = a.y.v + b.y.v ∧ (a.add b).z.v = a.z.v + b.z.v := ⟨v_a ha.x hb.x, v_a ha.y hb.y, v_a ha.z hb.z⟩
theorem scale_v (ha : a.good) (hk : k.valid = true) : (a.scale k).x.v = a.x.v * k.v ∧ (a.scale k).y.v = a.y.v * k.v ∧ (a.scale k).z.v = a.z.v * k.v := ⟨v_m ha.x hk, v_m ha.y hk, v_m ha.z hk⟩
theorem cross_v (ha : a.good) (hb : b.good) : (a.cross b).x.v = a.y.v * b.z.v - a.z.v * b.y.v ∧ (a.cross b).y.v = a.z.v * b.x.v - a.x.v * b.z.v ∧ (a.cross b).z.v = a.x.v * b.y.v - a.y.v * b.x.v := by
  unfold Vq.cross
  refine ⟨?_, ?_, ?_⟩
  · rw [v_s (mul_valid ha.y hb.z) (mul_valid ha.z hb.y), v_m ha.y hb.z, v_m ha.z hb.y]
  · rw [v_s (mul_valid ha.z hb.x) (mul_valid ha.x hb.z), v_m ha.z hb.x, v_m ha.x hb.z]
  · rw [v_s (mul_valid ha.x hb.y) (mul_valid ha.y hb.x), v_m ha.x hb.y, v_m ha.y hb.x]
theorem Vq.inj (ha : a.good) (hb : b.good) (hx : a.x.v = b.x.v) (hy : a.y.v = b.y.v) (hz : a.z.v = b.z.v) : a = b := by
  have e1 := v_inj ha.x hb.x hx
  have e2 := v_inj ha.y hb.y hy
  have e3 := v_inj ha.z hb.z hz
  cases a; cases b; simp only at e1 e2 e3; subst e1; subst e2; subst e3; rfl
-- a vector space
-- products
-- on the way
end
end Go.Proofs.YthebfmlfgfmlnaaGreatDoor
namespace Go.Proofs.YthebfmlfgfmlnaaGreatDoor
set_option linter.unusedSimpArgs false
set_option linter.unusedVariables false
set_option maxRecDepth 100000
open Go.RowKit
/-- A quaternion, a vector of rational numbers. -/
@[ext] structure QR where
  w : Rat
  x : Rat
  y : Rat
  z : Rat
@[ext] structure VR where
  x : Rat
  y : Rat
  z : Rat
def QR.nrm (a : QR) : Rat := a.w * a.w + (a.x * a.x + (a.y * a.y + a.z * a.z))
def QR.mul (p q : QR) : QR := ⟨p.w * q.w - (p.x * q.x + (p.y * q.y + p.z * q.z)), q.x * p.w + p.x * q.w + (p.y * q.z - p.z * q.y), q.y * p.w + p.y * q.w + (p.z * q.x - p.x * q.z), q.z * p.w + p.z * q.w + (p.x * q.y - p.y * q.x)⟩
def QR.conj (a : QR) : QR := ⟨a.w, -a.x, -a.y, -a.z⟩
def QR.smul (k : Rat) (a : QR) : QR := ⟨k * a.w, k * a.x, k * a.y, k * a.z⟩
def QR.one : QR := ⟨1, 0, 0, 0⟩
/-- Equal up to a factor. -/
def Sim (a b : QR) : Prop := ∃ k : Rat, k ≠ 0 ∧ b = QR.smul k a
/-- The image, times the square of the length. -/
def QR.rot (q : QR) (v : VR) : VR :=
  ⟨(q.w * q.w - (q.x * q.x + (q.y * q.y + q.z * q.z))) * v.x + (2 * (q.x * v.x + (q.y * v.y + q.z * v.z))) * q.x + (2 * q.w) * (q.y * v.z - q.z * v.y),
   (q.w * q.w - (q.x * q.x + (q.y * q.y + q.z * q.z))) * v.y + (2 * (q.x * v.x + (q.y * v.y + q.z * v.z))) * q.y + (2 * q.w) * (q.z * v.x - q.x * v.z),
   (q.w * q.w - (q.x * q.x + (q.y * q.y + q.z * q.z))) * v.z + (2 * (q.x * v.x + (q.y * v.y + q.z * v.z))) * q.z + (2 * q.w) * (q.x * v.y - q.y * v.x)⟩
def VR.smul (k : Rat) (v : VR) : VR := ⟨k * v.x, k * v.y, k * v.z⟩
def VR.dot (a b : VR) : Rat := a.x * b.x + (a.y * b.y + a.z * b.z)
def QR.app (q : QR) (v : VR) : VR := (q.rot v).smul (q.nrm)⁻¹
theorem sq_nonneg' (r : Rat) : 0 ≤ r * r := by
  rcases Rat.le_total (a := 0) (b := r) with h | h
  · exact Rat.mul_nonneg h h
  · have := Rat.mul_nonneg (show 0 ≤ -r by grind) (show 0 ≤ -r by grind); grind
theorem nrm_zero {a : QR} : a.nrm = 0 ↔ a.w = 0 ∧ a.x = 0 ∧ a.y = 0 ∧ a.z = 0 := by
  unfold QR.nrm
  have h1 := sq_nonneg' a.w
  have h2 := sq_nonneg' a.x
  have h3 := sq_nonneg' a.y
  have h4 := sq_nonneg' a.z
  constructor
  · intro h
    have e1 : a.w * a.w = 0 := by grind
    have e2 : a.x * a.x = 0 := by grind
    have e3 : a.y * a.y = 0 := by grind
    have e4 : a.z * a.z = 0 := by grind
    exact ⟨by grind, by grind, by grind, by grind⟩
  · rintro ⟨e1, e2, e3, e4⟩
    rw [e1, e2, e3, e4]; grind
theorem nrm_mul (p q : QR) : (p.mul q).nrm = p.nrm * q.nrm := by
  unfold QR.nrm QR.mul; grind
theorem nrm_conj (p : QR) : p.conj.nrm = p.nrm := by unfold QR.nrm QR.conj; grind
theorem nrm_smul (k : Rat) (p : QR) : (QR.smul k p).nrm = k * k * p.nrm := by unfold QR.nrm QR.smul; grind
theorem mul_ne {a b : Rat} (ha : a ≠ 0) (hb : b ≠ 0) : a * b ≠ 0 := fun h => by rcases Rat.mul_eq_zero.1 h with h | h; exact ha h; exact hb h
theorem Sim.refl (a : QR) : Sim a a := ⟨1, by decide, by unfold QR.smul; ext <;> simp only <;> grind⟩
theorem Sim.symm {a b : QR} (h : Sim a b) : Sim b a := by
  obtain ⟨k, hk, rfl⟩ := h
  refine ⟨k⁻¹, fun h => by have h1 := Rat.inv_mul_cancel k hk; rw [h] at h1; grind, ?_⟩
  have := Rat.inv_mul_cancel k hk
  unfold QR.smul; ext <;> simp only <;> grind
theorem Sim.trans {a b c : QR} (h : Sim a b) (h2 : Sim b c) : Sim a c := by
  obtain ⟨k, hk, rfl⟩ := h
  obtain ⟨l, hl, rfl⟩ := h2
  exact ⟨l * k, mul_ne hl hk, by unfold QR.smul; ext <;> simp only <;> grind⟩
theorem Sim.mul {a a' b b' : QR} (h : Sim a a') (h2 : Sim b b') : Sim (a.mul b) (a'.mul b') := by
  obtain ⟨k, hk, rfl⟩ := h
  obtain ⟨l, hl, rfl⟩ := h2
  exact ⟨k * l, mul_ne hk hl, by unfold QR.smul QR.mul; ext <;> simp only <;> grind⟩
theorem Sim.conj {a b : QR} (h : Sim a b) : Sim a.conj b.conj := by
  obtain ⟨k, hk, rfl⟩ := h
  exact ⟨k, hk, by unfold QR.smul QR.conj; ext <;> simp only <;> grind⟩
theorem Sim.nrm {a b : QR} (h : Sim a b) (ha : a.nrm ≠ 0) : b.nrm ≠ 0 := by
  obtain ⟨k, hk, rfl⟩ := h
  rw [nrm_smul]; exact mul_ne (mul_ne hk hk) ha
end Go.Proofs.YthebfmlfgfmlnaaGreatDoor
namespace Go.Proofs.YthebfmlfgfmlnaaGreatDoor
set_option linter.unusedSimpArgs false
set_option linter.unusedVariables false
set_option maxRecDepth 100000
open Go.RowKit
/-- A quaternion of fractions. -/
structure Qq where
  w : Fq
  x : Fq
  y : Fq
  z : Fq
def Qq.r (q : Qq) : QR := ⟨q.w.v, q.x.v, q.y.v, q.z.v⟩
def Qq.axis (q : Qq) : Vq := ⟨q.x, q.y, q.z⟩
def Vq.r (a : Vq) : VR := ⟨a.x.v, a.y.v, a.z.v⟩
structure Qq.comp (q : Qq) : Prop where
  w : q.w.valid = true
  x : q.x.valid = true
  y : q.y.valid = true
  z : q.z.valid = true
theorem Qq.comp.axis {q : Qq} (h : q.comp) : q.axis.good := ⟨h.x, h.y, h.z⟩
/-- The first component that is not zero. -/
def Qq.first (q : Qq) : Fq := if q.w.p ≠ 0 then q.w else if q.x.p ≠ 0 then q.x else if q.y.p ≠ 0 then q.y else q.z
def Qq.over (q : Qq) (n : Fq) : Qq := ⟨q.w.div n, q.x.div n, q.y.div n, q.z.div n⟩
def Qq.zero : Qq := ⟨.zero, .zero, .zero, .zero⟩
/-- What Make returns. -/
def Qq.canon (q : Qq) : Qq := if q.first.p = 0 then .zero else q.over q.first
structure Qq.good (q : Qq) : Prop where
  comp : q.comp
  one : q.first.v = 1
def Qq.id : Qq := ⟨.ofInt 1, .ofInt 0, .ofInt 0, .ofInt 0⟩
section
variable {p q : Qq}
theorem Qq.comp.first (h : q.comp) : q.first.valid = true := by
  unfold Qq.first
  split
  · exact h.w
  · split
    · exact h.x
    · split
      · exact h.y
      · exact h.z
theorem Qq.comp.over (h : q.comp) {n : Fq} (hn : n.p ≠ 0) : (q.over n).comp := ⟨div_valid h.w hn, div_valid h.x hn, div_valid h.y hn, div_valid h.z hn⟩
theorem div_v {a n : Fq} (ha : a.valid = true) (hn : n.valid = true) (h0 : n.p ≠ 0) : (a.div n).v = a.v / n.v := v_div (Fq.valid.n ha) (Fq.valid.n hn) h0
theorem p_v {a : Fq} (ha : a.valid = true) : a.v = 0 ↔ a.p = 0 := v_eq0 (Fq.valid.n ha)
theorem over_r (h : q.comp) {n : Fq} (hn : n.valid = true) (h0 : n.p ≠ 0) : (q.over n).r = QR.smul (n.v)⁻¹ q.r := by
  unfold Qq.r Qq.over QR.smul
  simp only
  rw [div_v h.w hn h0, div_v h.x hn h0, div_v h.y hn h0, div_v h.z hn h0]
  ext <;> simp only [Rat.div_def] <;> grind
theorem first_ne (h : q.comp) : q.first.p ≠ 0 ↔ q.r.nrm ≠ 0 := by
  rw [show (q.r.nrm ≠ 0) ↔ _ from not_congr nrm_zero]
  unfold Qq.r Qq.first
  simp only
  have h1 := p_v h.w
  have h2 := p_v h.x
  have h3 := p_v h.y
  have h4 := p_v h.z
  by_cases c1 : q.w.p = 0
  · rw [if_neg (by simpa using c1)]
    by_cases c2 : q.x.p = 0
    · rw [if_neg (by simpa using c2)]
      by_cases c3 : q.y.p = 0
      · rw [if_neg (by simpa using c3)]
        constructor
        · intro c h; exact c (h4.1 h.2.2.2)
        · intro c h; exact c ⟨h1.2 c1, h2.2 c2, h3.2 c3, h4.2 h⟩
      · rw [if_pos c3]; exact ⟨fun _ h => c3 (h3.1 h.2.2.1), fun _ => c3⟩
    · rw [if_pos c2]; exact ⟨fun _ h => c2 (h2.1 h.2.1), fun _ => c2⟩
  · rw [if_pos c1]; exact ⟨fun _ h => c1 (h1.1 h.1), fun _ => c1⟩
theorem inv_ne {k : Rat} (hk : k ≠ 0) : k⁻¹ ≠ 0 := fun h => by have h1 := Rat.inv_mul_cancel k hk; rw [h] at h1; grind
/-- The first component that is not zero, of rational numbers. -/
def QR.fst (a : QR) : Rat := if a.w ≠ 0 then a.w else if a.x ≠ 0 then a.x else if a.y ≠ 0 then a.y else a.z
theorem first_v (h : q.comp) : q.first.v = q.r.fst := by
  unfold Qq.first QR.fst Qq.r
  simp only
  have h1 := p_v h.w
  have h2 := p_v h.x
  have h3 := p_v h.y
  by_cases c1 : q.w.p = 0
  · have d1 := h1.2 c1
    simp only [c1, d1, ne_eq, not_true_eq_false, if_false]
    by_cases c2 : q.x.p = 0
    · have d2 := h2.2 c2
      simp only [c2, d2, not_true_eq_false, if_false]
      by_cases c3 : q.y.p = 0
      · have d3 := h3.2 c3
        simp only [c3, d3, not_true_eq_false, if_false]
      · have d3 : ¬ q.y.v = 0 := fun e => c3 (h3.1 e)
        simp only [c3, d3, not_false_eq_true, if_true]
    · have d2 : ¬ q.x.v = 0 := fun e => c2 (h2.1 e)
      simp only [c2, d2, not_false_eq_true, if_true]
  · have d1 : ¬ q.w.v = 0 := fun e => c1 (h1.1 e)
    simp only [c1, d1, ne_eq, not_false_eq_true, if_true]
theorem fst_smul (k : Rat) (hk : k ≠ 0) (a : QR) : (QR.smul k a).fst = k * a.fst := by
  unfold QR.fst QR.smul
  simp only
  have hz : ∀ r : Rat, k * r ≠ 0 ↔ r ≠ 0 := fun r => ⟨fun h e => h (by rw [e]; grind), fun h => mul_ne hk h⟩
  by_cases c1 : a.w ≠ 0
  · rw [if_pos ((hz _).2 c1), if_pos c1]
  · rw [if_neg (fun h => c1 ((hz _).1 h)), if_neg c1]
    by_cases c2 : a.x ≠ 0
    · rw [if_pos ((hz _).2 c2), if_pos c2]
    · rw [if_neg (fun h => c2 ((hz _).1 h)), if_neg c2]
      by_cases c3 : a.y ≠ 0
      · rw [if_pos ((hz _).2 c3), if_pos c3]
      · rw [if_neg (fun h => c3 ((hz _).1 h)), if_neg c3]
theorem canon_good (h : q.comp) (h0 : q.first.p ≠ 0) : q.canon.good := by
  have hc : q.canon.comp := by unfold Qq.canon; rw [if_neg h0]; exact h.over h0
  refine ⟨hc, ?_⟩
  have hn : q.first.v ≠ 0 := fun e => h0 ((p_v h.first).1 e)
  rw [first_v hc]
  have e : q.canon.r = QR.smul (q.first.v)⁻¹ q.r := by unfold Qq.canon; rw [if_neg h0]; exact over_r h h.first h0
  rw [e, fst_smul _ (inv_ne hn), ← first_v h, Rat.inv_mul_cancel _ hn]
theorem good_nrm (h : q.good) : q.r.nrm ≠ 0 := (first_ne h.comp).1 (fun e => by have h1 := (p_v h.comp.first).2 e; rw [h.one] at h1; exact absurd h1 (by decide))
theorem id_good : Qq.id.good := by
  refine ⟨⟨ofInt_valid 1, ofInt_valid 0, ofInt_valid 0, ofInt_valid 0⟩, ?_⟩
  have e : Qq.id.first = Fq.ofInt 1 := rfl
  rw [e, v_ofInt]; rfl
/-- The product before it is made canonical. -/
def Qq.hamV (p q : Qq) : Vq := ((q.axis.scale p.w).add (p.axis.scale q.w)).add (p.axis.cross q.axis)
def Qq.hamW (p q : Qq) : Fq := (p.w.mul q.w).sub (p.axis.dot q.axis)
def Qq.ham (p q : Qq) : Qq := ⟨p.hamW q, (p.hamV q).x, (p.hamV q).y, (p.hamV q).z⟩
def Qq.mul (p q : Qq) : Qq := (p.ham q).canon
def Qq.inv (q : Qq) : Qq := (Qq.mk q.w (q.axis.scale (.ofInt (-1))).x (q.axis.scale (.ofInt (-1))).y (q.axis.scale (.ofInt (-1))).z).canon
def Qq.inv' (q : Qq) : Qq := (Qq.mk q.w q.x.neg q.y.neg q.z.neg).canon
theorem hamV_good (hp : p.comp) (hq : q.comp) : (p.hamV q).good := ((hq.axis.scale hp.w).add (hp.axis.scale hq.w)).add (hp.axis.cross hq.axis)
theorem ham_comp (hp : p.comp) (hq : q.comp) : (p.ham q).comp := ⟨sub_valid (mul_valid hp.w hq.w) (dot_valid hp.axis hq.axis), (hamV_good hp hq).x, (hamV_good hp hq).y, (hamV_good hp hq).z⟩
theorem ham_r (hp : p.comp) (hq : q.comp) : (p.ham q).r = p.r.mul q.r := by
  have h1 := v_s (mul_valid hp.w hq.w) (dot_valid hp.axis hq.axis)
  have h2 := v_m hp.w hq.w
  have h3 := dot_v hp.axis hq.axis
  have h4 := scale_v hq.axis hp.w
  have h5 := scale_v hp.axis hq.w
  have h6 := cross_v hp.axis hq.axis
  have h7 := add_v (hq.axis.scale hp.w) (hp.axis.scale hq.w)
  have h8 := add_v ((hq.axis.scale hp.w).add (hp.axis.scale hq.w)) (hp.axis.cross hq.axis)
  unfold Qq.ham Qq.r QR.mul
  simp only
  ext <;> simp only
  · unfold Qq.hamW; rw [h1, h2, h3]; rfl
  · unfold Qq.hamV; rw [h8.1, h7.1, h4.1, h5.1, h6.1]; rfl
  · unfold Qq.hamV; rw [h8.2.1, h7.2.1, h4.2.1, h5.2.1, h6.2.1]; rfl
  · unfold Qq.hamV; rw [h8.2.2, h7.2.2, h4.2.2, h5.2.2, h6.2.2]; rfl
theorem ham_ne (hp : p.good) (hq : q.good) : (p.ham q).first.p ≠ 0 := by
  rw [first_ne (ham_comp hp.comp hq.comp), ham_r hp.comp hq.comp, nrm_mul]
  exact mul_ne (good_nrm hp) (good_nrm hq)
theorem mul_good (hp : p.good) (hq : q.good) : (p.mul q).good := canon_good (ham_comp hp.comp hq.comp) (ham_ne hp hq)
theorem inv_eq (hq : q.comp) : Qq.mk q.w (q.axis.scale (.ofInt (-1))).x (q.axis.scale (.ofInt (-1))).y (q.axis.scale (.ofInt (-1))).z = Qq.mk q.w q.x.neg q.y.neg q.z.neg := by
  have h := scale_v hq.axis (ofInt_valid (-1))
  have hg := hq.axis.scale (ofInt_valid (-1))
  have h1 := v_ofInt (-1)
  rw [h1] at h
  have e1 := v_inj hg.x (neg_valid hq.x) (by rw [h.1, v_neg]; show q.x.v * _ = _; grind)
  have e2 := v_inj hg.y (neg_valid hq.y) (by rw [h.2.1, v_neg]; show q.y.v * _ = _; grind)
  have e3 := v_inj hg.z (neg_valid hq.z) (by rw [h.2.2, v_neg]; show q.z.v * _ = _; grind)
  rw [e1, e2, e3]
theorem inv_inv' (hq : q.comp) : q.inv = q.inv' := by unfold Qq.inv Qq.inv'; rw [inv_eq hq]
theorem conj_comp (hq : q.comp) : (Qq.mk q.w q.x.neg q.y.neg q.z.neg).comp := ⟨hq.w, neg_valid hq.x, neg_valid hq.y, neg_valid hq.z⟩
theorem conj_r : (Qq.mk q.w q.x.neg q.y.neg q.z.neg).r = q.r.conj := by unfold Qq.r QR.conj; simp only [v_neg]
theorem conj_ne (hq : q.good) : (Qq.mk q.w q.x.neg q.y.neg q.z.neg).first.p ≠ 0 := by rw [first_ne (conj_comp hq.comp), conj_r, nrm_conj]; exact good_nrm hq
theorem inv_good (hq : q.good) : q.inv.good := by rw [inv_inv' hq.comp]; exact canon_good (conj_comp hq.comp) (conj_ne hq)
variable {a b c : Qq}
end
end Go.Proofs.YthebfmlfgfmlnaaGreatDoor
namespace Go.Proofs.YthebfmlfgfmlnaaGreatDoor
set_option linter.unusedSimpArgs false
set_option linter.unusedVariables false
set_option maxRecDepth 100000
open Go.RowKit
/-- The square of the length. -/
def Qq.nn (q : Qq) : Fq := (q.w.mul q.w).add (q.axis.dot q.axis)
def Qq.dd (q : Qq) : Fq := (q.w.mul q.w).sub (q.axis.dot q.axis)
def Qq.ap1 (q : Qq) (v : Vq) : Vq := v.scale q.dd
def Qq.ap2 (q : Qq) (v : Vq) : Vq := q.axis.scale ((Fq.ofInt 2).mul (q.axis.dot v))
def Qq.ap3 (q : Qq) (v : Vq) : Vq := (q.axis.cross v).scale ((Fq.ofInt 2).mul q.w)
def Qq.rat (q : Qq) : Fq := (Fq.ofInt 1).div q.nn
/-- The image: of the program, of the reference. -/
def Qq.app (q : Qq) (v : Vq) : Vq := (((q.ap1 v).add (q.ap2 v)).add (q.ap3 v)).scale q.rat
section
variable {p q d : Qq} {v x y a b : Vq} {t : Fq}
theorem nn_valid (h : q.comp) : q.nn.valid = true := add_valid (mul_valid h.w h.w) (dot_valid h.axis h.axis)
theorem dd_valid (h : q.comp) : q.dd.valid = true := sub_valid (mul_valid h.w h.w) (dot_valid h.axis h.axis)
theorem nn_v (h : q.comp) : q.nn.v = q.r.nrm := by
  unfold Qq.nn
  rw [v_a (mul_valid h.w h.w) (dot_valid h.axis h.axis), v_m h.w h.w, dot_v h.axis h.axis]; rfl
theorem nn_ne (h : q.good) : q.nn.p ≠ 0 := fun e => good_nrm h (by rw [← nn_v h.comp]; exact (p_v (nn_valid h.comp)).2 e)
theorem ap1_good (h : q.comp) (hv : v.good) : (q.ap1 v).good := hv.scale (dd_valid h)
theorem ap2_good (h : q.comp) (hv : v.good) : (q.ap2 v).good := h.axis.scale (mul_valid (ofInt_valid 2) (dot_valid h.axis hv))
theorem ap3_good (h : q.comp) (hv : v.good) : (q.ap3 v).good := (h.axis.cross hv).scale (mul_valid (ofInt_valid 2) h.w)
theorem rat_valid (h : q.good) : q.rat.valid = true := div_valid (ofInt_valid 1) (nn_ne h)
theorem app_good (h : q.good) (hv : v.good) : (q.app v).good := (((ap1_good h.comp hv).add (ap2_good h.comp hv)).add (ap3_good h.comp hv)).scale (rat_valid h)
-- rigid
-- on the way
/-- The rotation between, where the way is not half a turn. -/
def Qq.way (p d : Qq) (t : Fq) : Qq := p.mul (Qq.mk (.ofInt 1) (d.axis.scale t).x (d.axis.scale t).y (d.axis.scale t).z).canon
-- from one vector to another
def Vq.turn (a b : Vq) : Qq := (Qq.mk ((a.dot a).add (a.dot b)) (a.cross b).x (a.cross b).y (a.cross b).z).canon
end
end Go.Proofs.YthebfmlfgfmlnaaGreatDoor
namespace Go.Proofs.YthebfmlfgfmlnaaGreatDoor
set_option linter.unusedSimpArgs false
set_option linter.unusedVariables false
set_option maxRecDepth 100000
open Go.RowKit
structure Vq.ok (d : Nat) (a : Vq) : Prop where
  x : a.x.ok d
  y : a.y.ok d
  z : a.z.ok d
structure Qq.ok (d : Nat) (q : Qq) : Prop where
  w : q.w.ok d
  x : q.x.ok d
  y : q.y.ok d
  z : q.z.ok d
section
variable {a b : Vq} {k : Fq} {p q : Qq} {d e f : Nat}
theorem Vq.ok.mono (h : a.ok d) (hd : d ≤ e) : a.ok e := ⟨h.x.mono hd, h.y.mono hd, h.z.mono hd⟩
theorem Qq.ok.mono (h : q.ok d) (hd : d ≤ e) : q.ok e := ⟨h.w.mono hd, h.x.mono hd, h.y.mono hd, h.z.mono hd⟩
theorem Qq.ok.axis (h : q.ok d) : q.axis.ok d := ⟨h.x, h.y, h.z⟩
theorem Vq.ok.add (h : a.ok d) (k : b.ok e) : (a.add b).ok (2 * (d + e) + 1) := ⟨(h.x.add k.x).mono (by omega), (h.y.add k.y).mono (by omega), (h.z.add k.z).mono (by omega)⟩
theorem Vq.ok.sub (h : a.ok d) (k : b.ok e) : (a.sub b).ok (2 * (d + e) + 1) := ⟨(h.x.sub k.x).mono (by omega), (h.y.sub k.y).mono (by omega), (h.z.sub k.z).mono (by omega)⟩
theorem Vq.ok.scale (h : a.ok d) (hk : k.ok e) : (a.scale k).ok (d + e) := ⟨h.x.mul hk, h.y.mul hk, h.z.mul hk⟩
theorem Vq.ok.dot (h : a.ok d) (k : b.ok e) : (a.dot b).ok (10 * (d + e) + 3) := ((h.x.mul k.x).add ((h.y.mul k.y).add (h.z.mul k.z))).mono (by omega)
theorem Vq.ok.cross (h : a.ok d) (k : b.ok e) : (a.cross b).ok (4 * (d + e) + 1) := ⟨((h.y.mul k.z).sub (h.z.mul k.y)).mono (by omega), ((h.z.mul k.x).sub (h.x.mul k.z)).mono (by omega), ((h.x.mul k.y).sub (h.y.mul k.x)).mono (by omega)⟩
theorem Qq.ok.first (h : q.ok d) : q.first.ok d := by
  unfold Qq.first
  split
  · exact h.w
  · split
    · exact h.x
    · split
      · exact h.y
      · exact h.z
theorem Qq.ok.over (h : q.ok d) {n : Fq} (hn : n.ok e) (h0 : n.p ≠ 0) : (q.over n).ok (d + e) := ⟨h.w.div hn h0, h.x.div hn h0, h.y.div hn h0, h.z.div hn h0⟩
theorem Qq.ok.canon (h : q.ok d) (h0 : q.first.p ≠ 0) : q.canon.ok (d + d) := by unfold Qq.canon; rw [if_neg h0]; exact h.over h.first h0
theorem Qq.ok.hamW (h : p.ok d) (k : q.ok e) : (p.hamW q).ok (22 * (d + e) + 7) := ((h.w.mul k.w).sub (h.axis.dot k.axis)).mono (by omega)
theorem Qq.ok.hamV (h : p.ok d) (k : q.ok e) : (p.hamV q).ok (16 * (d + e) + 5) := (((k.axis.scale h.w).add (h.axis.scale k.w)).add (h.axis.cross k.axis)).mono (by omega)
theorem Qq.ok.ham (h : p.ok d) (k : q.ok e) : (p.ham q).ok (22 * (d + e) + 7) := ⟨h.hamW k, (h.hamV k).x.mono (by omega), (h.hamV k).y.mono (by omega), (h.hamV k).z.mono (by omega)⟩
theorem Qq.ok.mul (h : p.ok d) (k : q.ok e) (h0 : (p.ham q).first.p ≠ 0) : (p.mul q).ok (44 * (d + e) + 14) := ((h.ham k).canon h0).mono (by omega)
end
end Go.Proofs.YthebfmlfgfmlnaaGreatDoor
namespace Go.Proofs.YthebfmlfgfmlnaaGreatDoor
set_option linter.unusedSimpArgs false
set_option linter.unusedVariables false
set_option maxRecDepth 100000
open Go.RowKit
/-- A slice of length L. -/
def Sp.sl (L : Nat) : Sp := ⟨fun _ v => ∃ a c, v = .slice a L c, fun _ _ _ h _ => h⟩
section
variable {Q : Exit → Act → World → Prop} {o : Oper} {a : Act} {w : World} {x y : Operand} {g L p N q k : Nat} {s : Bool}
end
/-- Which fractions the laws look at. -/
def FitP (s : Bool) (L p N q : Nat) : Prop := L ≤ 12 ∧ N ≤ 12 ∧ nl p = L ∧ nl q = N ∧ (Fq.mk s p q).valid = true
theorem FitP.ok {s : Bool} {L p N q : Nat} (h : FitP s L p N q) : (Fq.mk s p q).ok 12 := ⟨by show nl p ≤ 12; have := h.1; have := h.2.2.1; omega, by show nl q ≤ 12; have := h.2.1; have := h.2.2.2.1; omega, (of_decide_eq_true h.2.2.2.2).1⟩
-- constants of the examples
end Go.Proofs.YthebfmlfgfmlnaaGreatDoor
namespace Go.Proofs.YthebfmlfgfmlnaaGreatDoor
set_option linter.unusedSimpArgs false
set_option linter.unusedVariables false
set_option maxRecDepth 100000
open Go.RowKit
/-- A fraction of rows, leading zeros allowed. -/
structure Rq where
  s : Bool
  L : Nat
  p : Nat
  N : Nat
  q : Nat
def Fq.raw (x : Fq) : Rq := ⟨x.s, nl x.p, x.p, nl x.q, x.q⟩
/-- The cells of a row of fractions. -/
def CellsR (w : World) : List Rq → List Value → Prop
  | [], cs => cs = []
  | r :: l, cs => ∃ a c b d cs', cs = .bool r.s :: .slice a r.L c :: .slice b r.N d :: cs' ∧ IsR w (.agg #[.slice a r.L c]) r.L r.p ∧ IsR w (.agg #[.slice b r.N d]) r.N r.q ∧ CellsR w l cs'
section
variable {w w' : World} {g g' : Nat} {l : List Rq} {cs : List Value} {T : TypeId}
theorem CellsR.mono (h : CellsR w l cs) (hb : Below w.heap.size w w') : CellsR w' l cs := by
  induction l generalizing cs with
  | nil => exact h
  | cons r l ih => obtain ⟨a, c, b, d, cs', e, h1, h2, h3⟩ := h; exact ⟨a, c, b, d, cs', e, h1.mono hb, h2.mono hb, ih h3⟩
theorem CellsR.upd (h : CellsR w l cs) (o : Own w g) (u : Upd w g w') : CellsR w' l cs := by
  induction l generalizing cs with
  | nil => exact h
  | cons r l ih => obtain ⟨a, c, b, d, cs', e, h1, h2, h3⟩ := h; exact ⟨a, c, b, d, cs', e, h1.upd o u, h2.upd o u, ih h3⟩
theorem CellsR.noInt (h : CellsR w l cs) (k : Nat) (n : Int) : cs[k]? ≠ some (Value.int .u32 n) := by
  induction l generalizing cs k with
  | nil => have e : cs = [] := h; rw [e]; simp
  | cons r l ih =>
    obtain ⟨a, c, b, d, cs', e, _, _, h3⟩ := h
    rw [e]
    match k with
    | 0 => intro h; cases h
    | 1 => intro h; cases h
    | 2 => intro h; cases h
    | k + 3 => exact ih h3 k
theorem CellsR.length (h : CellsR w l cs) : cs.length = 3 * l.length := by
  induction l generalizing cs with
  | nil => have e : cs = [] := h; rw [e]; rfl
  | cons r l ih => obtain ⟨a, c, b, d, cs', e, _, _, h3⟩ := h; have := ih h3; rw [e]; simp only [List.length_cons]; omega
theorem CellsR.get (h : CellsR w l cs) {k : Nat} {r : Rq} (hk : l[k]? = some r) :
    ∃ a c b d, cs[3 * k]? = some (.bool r.s) ∧ cs[3 * k + 1]? = some (.slice a r.L c) ∧ cs[3 * k + 2]? = some (.slice b r.N d) ∧ IsR w (.agg #[.slice a r.L c]) r.L r.p ∧ IsR w (.agg #[.slice b r.N d]) r.N r.q := by
  induction l generalizing cs k with
  | nil => cases hk
  | cons x l ih =>
    obtain ⟨a, c, b, d, cs', e, h1, h2, h3⟩ := h
    rw [e]
    match k with
    | 0 => simp at hk; subst hk; exact ⟨a, c, b, d, rfl, rfl, rfl, h1, h2⟩
    | k + 1 =>
      obtain ⟨a', c', b', d', e0, e1, e2, i1, i2⟩ := ih h3 (k := k) (by simpa using hk)
      exact ⟨a', c', b', d', by simpa [Nat.mul_add] using e0, by simpa [Nat.mul_add] using e1, by simpa [Nat.mul_add] using e2, i1, i2⟩
/-- A part of a row is replaced. -/
theorem CellsR.set (h : CellsR w l cs) {k : Nat} {r : Rq} (hk : k < l.length) {a b : Option Addr} {c d : Nat} (h1 : IsR w (.agg #[.slice a r.L c]) r.L r.p) (h2 : IsR w (.agg #[.slice b r.N d]) r.N r.q) :
    CellsR w (l.set k r) (((cs.set (3 * k) (.bool r.s)).set (3 * k + 1) (.slice a r.L c)).set (3 * k + 2) (.slice b r.N d)) := by
  induction l generalizing cs k with
  | nil => cases hk
  | cons x l ih =>
    obtain ⟨a', c', b', d', cs', e, i1, i2, i3⟩ := h
    rw [e]
    match k with
    | 0 => exact ⟨a, c, b, d, cs', rfl, h1, h2, i3⟩
    | k + 1 =>
      have := ih i3 (k := k) (by simpa using hk)
      exact ⟨a', c', b', d', _, by simp [Nat.mul_add], i1, i2, this⟩
def IsL (w : World) (v : Value) (l : List Rq) : Prop := ∃ cs, v = .agg cs.toArray ∧ CellsR w l cs
def VarL (T : TypeId) (w : World) (g : Nat) (l : List Rq) : Prop := ∃ cs, w.heap[g]? = some (.cells cs.toArray T (0, 0)) ∧ CellsR w l cs
theorem IsL.mono {v : Value} (h : IsL w v l) (hb : Below w.heap.size w w') : IsL w' v l := by obtain ⟨cs, e, h⟩ := h; exact ⟨cs, e, h.mono hb⟩
theorem IsL.upd {v : Value} (h : IsL w v l) (o : Own w g) (u : Upd w g w') : IsL w' v l := by obtain ⟨cs, e, h⟩ := h; exact ⟨cs, e, h.upd o u⟩
theorem VarL.lt (h : VarL T w g l) : g < w.heap.size := by obtain ⟨_, h, _⟩ := h; exact (Array.getElem?_eq_some_iff.1 h).1
theorem VarL.mono (h : VarL T w g l) (hb : Below w.heap.size w w') : VarL T w' g l := by
  have hl := h.lt
  obtain ⟨cs, h0, h1⟩ := h; exact ⟨cs, (hb.block g hl).trans h0, h1.mono hb⟩
theorem VarL.upd (h : VarL T w g' l) (o : Own w g) (u : Upd w g w') (hn : g' ≠ g) : VarL T w' g' l := by
  obtain ⟨cs, h0, h1⟩ := h; exact ⟨cs, (u.block g' hn).trans h0, h1.upd o u⟩
theorem VarL.own (h : VarL T w g l) : Own w g := by
  obtain ⟨cs, h0, h1⟩ := h
  exact ⟨cs.toArray, T, h0, fun k n => by rw [List.getElem?_toArray]; exact h1.noInt k n⟩
theorem VarL.get (h : VarL T w g l) {k : Nat} {r : Rq} (hk : l[k]? = some r) :
    ∃ a c b d, w.cell? ⟨g, 3 * k, none⟩ = some (.bool r.s) ∧ w.cell? ⟨g, 3 * k + 1, none⟩ = some (.slice a r.L c) ∧ w.cell? ⟨g, 3 * k + 2, none⟩ = some (.slice b r.N d) ∧ IsR w (.agg #[.slice a r.L c]) r.L r.p ∧ IsR w (.agg #[.slice b r.N d]) r.N r.q := by
  obtain ⟨cs, h0, h1⟩ := h
  obtain ⟨a, c, b, d, e0, e1, e2, i1, i2⟩ := h1.get hk
  exact ⟨a, c, b, d, by rw [cell_of_row w g _ _ _ (0, 0) h0, List.getElem?_toArray]; exact e0, by rw [cell_of_row w g _ _ _ (0, 0) h0, List.getElem?_toArray]; exact e1, by rw [cell_of_row w g _ _ _ (0, 0) h0, List.getElem?_toArray]; exact e2, i1, i2⟩
theorem VarL.frozen (h : VarL T w g l) (j : Nat) : w.frozen? ⟨g, j, none⟩ = false := by obtain ⟨cs, h0, _⟩ := h; exact frozen_of_row w g j _ _ h0
end
section
variable {Q : Exit → Act → World → Prop} {o : Oper} {a : Act} {w : World} {x y : Operand} {g k : Nat} {l : List Rq} {r : Rq} {T : TypeId}
end
section
variable {Q : Exit → Act → World → Prop} {o : Oper} {a : Act} {w : World} {x y z u : Operand} {f : FuncId} {tt : Array TypeId} {S S1 S2 S3 : Sp} {R : World → Ending → World → Prop}
end
end Go.Proofs.YthebfmlfgfmlnaaGreatDoor
namespace Go.Proofs.YthebfmlfgfmlnaaGreatDoor
set_option linter.unusedSimpArgs false
set_option linter.unusedVariables false
set_option maxRecDepth 100000
open Go.RowKit
def fr3 (x : Fq) : Rho := [.val (.bool x.s), .dig (nl x.p) x.p, .dig (nl x.q) x.q]
def frs : List Fq → Rho
  | [] => []
  | x :: xs => .val (.bool x.s) :: .dig (nl x.p) x.p :: .dig (nl x.q) x.q :: frs xs
def leaf3 (k : Nat) : List Leaf := [.ref (3 * k), .ref (3 * k + 1), .ref (3 * k + 2)]
def fr (k : Nat) : SV := .agg (leaf3 k)
def leafs : List Nat → List Leaf
  | [] => []
  | k :: ks => .ref (3 * k) :: .ref (3 * k + 1) :: .ref (3 * k + 2) :: leafs ks
def row (ks : List Nat) : SV := .agg (leafs ks)
def AtL (xs : List Fq) : List Nat → List Fq → Prop
  | [], [] => True
  | k :: ks, x :: vs => xs[k]? = some x ∧ AtL xs ks vs
  | _, _ => False
section
variable {xs : List Fq} {ys : Rho} {x y z : Fq} {i j k : Nat} {B : Blk} {w : World} {v : Value}
theorem frs_at : ∀ {xs : List Fq} {k : Nat} {x : Fq}, xs[k]? = some x → (frs xs ++ ys)[3 * k]? = some (.val (.bool x.s)) ∧ (frs xs ++ ys)[3 * k + 1]? = some (.dig (nl x.p) x.p) ∧ (frs xs ++ ys)[3 * k + 2]? = some (.dig (nl x.q) x.q)
  | [], _, _, h => by simp at h
  | x :: xs, 0, y, h => by simp at h; subst h; exact ⟨rfl, rfl, rfl⟩
  | x :: xs, k + 1, y, h => by
    have := frs_at (xs := xs) (k := k) (x := y) (by simpa using h)
    simpa [frs, Nat.mul_add] using this
theorem leaf_s {s : Bool} (h : (frs xs ++ ys)[i]? = some (.val (.bool s))) : (Leaf.ref i).holds (frs xs ++ ys) B w v ↔ v = .bool s := leafB h
theorem leaf_d {L N : Nat} (h : (frs xs ++ ys)[i]? = some (.dig L N)) : (Leaf.ref i).holds (frs xs ++ ys) B w v ↔ IsR w (.agg #[v]) L N := leafD h
theorem isR_slice {L N : Nat} (h : IsR w (.agg #[v]) L N) : ∃ a c, v = .slice a L c := by
  obtain ⟨a, c, e, _⟩ := h
  have e2 : v = .slice a L c := by
    injection e with e
    have := congrArg (fun x : Array Value => x[0]?) e
    simpa using this
  exact ⟨a, c, e2⟩
theorem row_holds : ∀ {ks : List Nat} {vs : List Fq} {cs : List Value}, AtL xs ks vs → (LeavesH (frs xs ++ ys) B w (leafs ks) cs ↔ CellsR w (vs.map Fq.raw) cs)
  | [], [], cs, _ => by
    constructor
    · intro h; match cs, h with | [], _ => rfl
    · intro h; have h : cs = [] := h; subst h; trivial
  | k :: ks, x :: vs, cs, h => by
    obtain ⟨h1, h2, h3⟩ := frs_at (ys := ys) h.1
    have ih := fun cs => row_holds (ks := ks) (vs := vs) (cs := cs) h.2
    constructor
    · intro hl
      match cs, hl with
      | u1 :: u2 :: u3 :: cs', hl =>
        obtain ⟨g1, g2, g3, g4⟩ := hl
        have e1 := (leaf_s h1).1 g1
        have e2 := (leaf_d h2).1 g2
        have e3 := (leaf_d h3).1 g3
        obtain ⟨a, c, rfl⟩ := isR_slice e2
        obtain ⟨b, d, rfl⟩ := isR_slice e3
        subst e1
        exact ⟨a, c, b, d, cs', rfl, e2, e3, (ih cs').1 g4⟩
      | [], hl => exact hl.elim
      | [_], hl => exact hl.2.elim
      | [_, _], hl => exact hl.2.2.elim
    · rintro ⟨a, c, b, d, cs', rfl, i1, i2, i3⟩
      exact ⟨(leaf_s h1).2 rfl, (leaf_d h2).2 i1, (leaf_d h3).2 i2, (ih cs').2 i3⟩
  | [], _ :: _, _, h => h.elim
  | _ :: _, [], _, h => h.elim
theorem row_isL {ks : List Nat} {vs : List Fq} (h : AtL xs ks vs) : (row ks).holds (frs xs ++ ys) B w v ↔ IsL w v (vs.map Fq.raw) := by
  constructor
  · rintro ⟨cs, rfl, h1⟩; exact ⟨cs, rfl, (row_holds h).1 h1⟩
  · rintro ⟨cs, rfl, h1⟩; exact ⟨cs, rfl, (row_holds h).2 h1⟩
theorem fr_isQ (h : xs[k]? = some x) : (fr k).holds (frs xs ++ ys) B w v ↔ IsQ w v x := by
  have := row_isL (ys := ys) (B := B) (w := w) (v := v) (ks := [k]) (vs := [x]) ⟨h, trivial⟩
  show (row [k]).holds _ B w v ↔ _
  rw [this]
  constructor
  · rintro ⟨cs, rfl, a, c, b, d, cs', rfl, i1, i2, e⟩
    have e : cs' = [] := e
    subst e
    exact ⟨a, c, b, d, rfl, i1, i2⟩
  · rintro ⟨a, c, b, d, rfl, i1, i2⟩
    exact ⟨_, rfl, a, c, b, d, [], rfl, i1, i2, rfl⟩
abbrev OkI (xs : List Fq) (ys : Rho) (i : Inst) : Prop := i.Ok Tryz.prog (frs xs ++ ys)
theorem inst2 {f : FuncId} (hen : Ent' f) (hc : ∀ va vb w, IsQ w va x → IsQ w vb y → Calls Tryz.prog f #[va, vb] w (fun e w' => RetQ w z e w')) (hi : xs[i]? = some x) (hj : xs[j]? = some y) (hk : xs[k]? = some z) : OkI xs ys ⟨f, [fr i, fr j], .v (fr k)⟩ :=
  ⟨hen, fun B w vs hB h => by
    match vs, h with
    | [va, vb], h =>
      refine (hc va vb w ((fr_isQ hi).1 h.1) ((fr_isQ hj).1 h.2.1)).mono ?_
      rintro e w' ⟨v, rfl, h1, h2⟩
      exact ⟨v, rfl, (fr_isQ hk).2 h1, h2⟩⟩
end
end Go.Proofs.YthebfmlfgfmlnaaGreatDoor
namespace Go.Proofs.YthebfmlfgfmlnaaGreatDoor
set_option linter.unusedSimpArgs false
set_option linter.unusedVariables false
set_option maxRecDepth 100000
open Go.RowKit
section
variable {xs : List Fq} {ys ρ : Rho} {x y z : Fq} {i j k n : Nat} {u c : Int} {b d : Bool} {l : Leaf} {f : FuncId} {op : BinOp} {t : TypeId}
theorem inst1V {v : Value} (hen : Ent' f) (hc : ∀ va w, IsQ w va x → Calls Tryz.prog f #[va] w (fun e w' => RetV w v e w')) (hi : xs[i]? = some x) (hl : ∀ B w, l.holds (frs xs ++ ys) B w v) : OkI xs ys ⟨f, [fr i], .v (.one l)⟩ :=
  ⟨hen, fun B w vs hB h => by
    match vs, h with
    | [va], h =>
      refine (hc va w ((fr_isQ hi).1 h.1)).mono ?_
      rintro e w' ⟨rfl, h2⟩
      exact ⟨_, rfl, hl B w', h2⟩⟩
theorem inst2V {v : Value} (hen : Ent' f) (hc : ∀ va vb w, IsQ w va x → IsQ w vb y → Calls Tryz.prog f #[va, vb] w (fun e w' => RetV w v e w')) (hi : xs[i]? = some x) (hj : xs[j]? = some y) (hl : ∀ B w, l.holds (frs xs ++ ys) B w v) : OkI xs ys ⟨f, [fr i, fr j], .v (.one l)⟩ :=
  ⟨hen, fun B w vs hB h => by
    match vs, h with
    | [va, vb], h =>
      refine (hc va vb w ((fr_isQ hi).1 h.1) ((fr_isQ hj).1 h.2.1)).mono ?_
      rintro e w' ⟨rfl, h2⟩
      exact ⟨_, rfl, hl B w', h2⟩⟩
theorem inst2E (hen : Ent' f) (hc : ∀ va vb w, IsQ w va x → IsQ w vb y → Calls Tryz.prog f #[va, vb] w (fun e w' => RetQE w z c e w')) (hi : xs[i]? = some x) (hj : xs[j]? = some y) (hk : xs[k]? = some z) : OkI xs ys ⟨f, [fr i, fr j], .tup [fr k, .one (.i .i64 c)]⟩ :=
  ⟨hen, fun B w vs hB h => by
    match vs, h with
    | [va, vb], h =>
      refine (hc va vb w ((fr_isQ hi).1 h.1) ((fr_isQ hj).1 h.2.1)).mono ?_
      rintro e w' ⟨v, rfl, h1, h2⟩
      exact ⟨_, rfl, ⟨[v, .int .i64 c], rfl, (fr_isQ hk).2 h1, rfl, trivial⟩, h2⟩⟩
theorem instIQ (hen : Ent' f) (hc : ∀ w, Calls Tryz.prog f #[.int .i64 u] w (fun e w' => RetQ w z e w')) (hk : xs[k]? = some z) : OkI xs ys ⟨f, [.one (.i .i64 u)], .v (fr k)⟩ :=
  ⟨hen, fun B w vs hB h => by
    match vs, h with
    | [va], h =>
      have e : va = .int .i64 u := h.1
      subst e
      refine (hc w).mono ?_
      rintro e w' ⟨v, rfl, h1, h2⟩
      exact ⟨v, rfl, (fr_isQ hk).2 h1, h2⟩⟩
theorem I_fMul (hi : xs[i]? = some x) (hj : xs[j]? = some y) (hk : xs[k]? = some (x.mul y)) (ox : x.ok 1000000000) (oy : y.ok 1000000000) : OkI xs ys ⟨115, [fr i, fr j], .v (fr k)⟩ :=
  inst2 (enters Tryz.func115 rfl rfl) (fun va vb w h1 h2 => q_fMul va vb x y w h1 h2 ox oy) hi hj hk
theorem I_fAdd (hi : xs[i]? = some x) (hj : xs[j]? = some y) (hk : xs[k]? = some (x.add y)) (ox : x.ok 1000000000) (oy : y.ok 1000000000) : OkI xs ys ⟨108, [fr i, fr j], .v (fr k)⟩ :=
  inst2 (enters Tryz.func108 rfl rfl) (fun va vb w h1 h2 => q_fAdd va vb x y w h1 h2 ox oy) hi hj hk
theorem I_fSub (hi : xs[i]? = some x) (hj : xs[j]? = some y) (hk : xs[k]? = some (x.sub y)) (ox : x.ok 1000000000) (oy : y.ok 1000000000) : OkI xs ys ⟨106, [fr i, fr j], .v (fr k)⟩ :=
  inst2 (enters Tryz.func106 rfl rfl) (fun va vb w h1 h2 => q_fSub va vb x y w h1 h2 ox oy) hi hj hk
theorem I_fDiv (hi : xs[i]? = some x) (hj : xs[j]? = some y) (hk : xs[k]? = some (x.div y)) (ox : x.ok 1000000000) (oy : y.ok 1000000000) (h0 : y.p ≠ 0) : OkI xs ys ⟨159, [fr i, fr j], .tup [fr k, .one (.i .i64 0)]⟩ :=
  inst2E (enters Tryz.func159 rfl rfl) (fun va vb w h1 h2 => q_fDiv va vb x y w h1 h2 ox oy h0) hi hj hk
theorem I_fSign (hi : xs[i]? = some x) (hl : ∀ B w, l.holds (frs xs ++ ys) B w (.int .i64 x.sgn)) (ox : x.ok 1000000000000) : OkI xs ys ⟨86, [fr i], .v (.one l)⟩ :=
  inst1V (enters Tryz.func86 rfl rfl) (fun va w h1 => q_fSign va x w h1 ox) hi hl
theorem I_fCmp (hi : xs[i]? = some x) (hj : xs[j]? = some y) (hl : ∀ B w, l.holds (frs xs ++ ys) B w (.int .i64 (x.cmp y))) (ox : x.ok 1000000000) (oy : y.ok 1000000000) : OkI xs ys ⟨87, [fr i, fr j], .v (.one l)⟩ :=
  inst2V (enters Tryz.func87 rfl rfl) (fun va vb w h1 h2 => q_fCmp va vb x y w h1 h2 ox oy) hi hj hl
theorem I_fInt (hk : xs[k]? = some (.ofInt u)) (lu : -9223372036854775808 ≤ u) (ru : u < 9223372036854775808) : OkI xs ys ⟨68, [.one (.i .i64 u)], .v (fr k)⟩ :=
  instIQ (enters Tryz.func68 rfl rfl) (fun w => q_fInt u w lu ru) hk
theorem I_fValid (hi : xs[i]? = some x) (hl : ∀ B w, l.holds (frs xs ++ ys) B w (.bool x.valid)) (ox : x.ok 1000000) : OkI xs ys ⟨85, [fr i], .v (.one l)⟩ :=
  inst1V (enters Tryz.func85 rfl rfl) (fun va w h1 => q_fValid va x w h1 ox.p ox.q) hi hl
theorem I_rSign (hi : xs[i]? = some x) (hl : ∀ B w, l.holds (frs xs ++ ys) B w (.int .i64 x.sgn)) (ox : x.ok 1000000000000) : OkI xs ys ⟨132, [fr i], .v (.one l)⟩ :=
  inst1V (enters Tryz.func132 rfl rfl) (fun va w h1 => q_rSign va x w h1 ox) hi hl
theorem I_rInt (hk : xs[k]? = some (.ofInt u)) (lu : -9223372036854775808 ≤ u) (ru : u < 9223372036854775808) : OkI xs ys ⟨38, [.one (.i .i64 u)], .v (fr k)⟩ :=
  instIQ (enters Tryz.func38 rfl rfl) (fun w => q_rInt u w lu ru) hk
theorem I_rValid (hi : xs[i]? = some x) (hl : ∀ B w, l.holds (frs xs ++ ys) B w (.bool x.valid)) (ox : x.ok 1000000) : OkI xs ys ⟨77, [fr i], .v (.one l)⟩ :=
  inst1V (enters Tryz.func77 rfl rfl) (fun va w h1 => q_rValid va x w h1 ox.p ox.q) hi hl
theorem I_rSame (hi : xs[i]? = some x) (hj : xs[j]? = some y) (hl : ∀ B w, l.holds (frs xs ++ ys) B w (.bool (x.same y))) (hp : nl x.p ≤ 1000000000000) (hq : nl x.q ≤ 1000000000000) (kp : nl y.p ≤ 1000000000000) (kq : nl y.q ≤ 1000000000000) : OkI xs ys ⟨21, [fr i, fr j], .v (.one l)⟩ :=
  inst2V (enters Tryz.func21 rfl rfl) (fun va vb w h1 h2 => q_SameB va vb x y w h1 h2 hp hq kp kq) hi hj hl
theorem sgn0 (h : x.p = 0) : x.sgn = 0 := by unfold Fq.sgn; rw [if_pos h]
theorem sgn_ne {x : Fq} : x.sgn ≠ 0 ↔ x.p ≠ 0 := by
  unfold Fq.sgn
  by_cases h : x.p = 0
  · rw [if_pos h]; simp [h]
  · rw [if_neg h]; simp only [ne_eq, h, not_false_eq_true, iff_true]; split <;> decide
theorem sgn_eq (h : x.p ≠ 0) : (x.sgn == 0) = false := by have := sgn_ne.2 h; simpa using this
theorem sgn_nq (h : x.p ≠ 0) : (x.sgn != 0) = true := by have := sgn_ne.2 h; simpa using this
theorem ne_eql (h : u ≠ c) : (u == c) = false := by simpa using h
theorem isR00 (w : World) : IsR w (.agg #[.slice none 0 0]) 0 0 := ⟨none, 0, rfl, Nat.le_refl _, by simp, fun h => by omega⟩
theorem zero_row {B : Blk} {w : World} : ∀ {n : Nat} {cs : List Value}, LeavesH ρ B w (List.replicate n [Leaf.b false, .sl0, .sl0]).flatten cs → CellsR w (List.replicate n Fq.zero.raw) cs
  | 0, cs, h => by
    match cs, h with
    | [], _ => rfl
  | n + 1, cs, h => by
    match cs, h with
    | u1 :: u2 :: u3 :: cs', h =>
      obtain ⟨g1, g2, g3, g4⟩ := h
      have e1 : u1 = .bool false := g1
      have e2 : u2 = .slice none 0 0 := g2
      have e3 : u3 = .slice none 0 0 := g3
      subst e1; subst e2; subst e3
      have hz : nl 0 = 0 := nl_zero
      refine ⟨none, 0, none, 0, cs', ?_, ?_, ?_, zero_row (n := n) g4⟩
      · simp [Fq.raw, Fq.zero, hz]
      · simp only [Fq.raw, Fq.zero, hz]; exact isR00 w
      · simp only [Fq.raw, Fq.zero, hz]; exact isR00 w
    | [], h => exact h.elim
    | [_], h => exact h.2.elim
    | [_, _], h => exact h.2.2.elim
end
end Go.Proofs.YthebfmlfgfmlnaaGreatDoor
namespace Go.Proofs.YthebfmlfgfmlnaaGreatDoor
set_option linter.unusedSimpArgs false
set_option linter.unusedVariables false
set_option maxRecDepth 100000
open Go.RowKit
theorem J_fValid {ρ : Rho} {x : Fq} {a b : Nat} {l : Leaf} {v : Bool} (hx : FAt ρ l a b x) (hv : x.valid = v) (hp : nl x.p ≤ 1000000) (hq : nl x.q ≤ 1000000) : Inst.Ok Tryz.prog ρ ⟨85, [.agg [l, .ref a, .ref b]], .v (.one (.b v))⟩ :=
  i1QV (enters Tryz.func85 rfl rfl) (fun va w h1 => q_fValid va x w h1 hp hq) hx (lb hv)
theorem I_CutPrefix {ρ : Rho} {n m : Nat} {s t : ByteArray} {B : Bool} {l : Leaf} (hn : ρ[n]? = some (.val (.string s))) (hm : ρ[m]? = some (.val (.string t))) (hl : ∀ B' w, l.holds ρ B' w (.bool B)) (hb : decide (0 < s.size ∧ by' s 0 = 45) = B) (ht : t = if B then s.extract 1 s.size else s) : Inst.Ok Tryz.prog ρ ⟨95, [.one (.ref n), .one (.s (ByteArray.mk #[45]))], .tup [.one (.ref m), .one l]⟩ :=
  ⟨enters Tryz.func95 rfl rfl, fun Bk w vs hB h => by
    match vs, h with
    | [va, vb], h =>
      obtain rfl := leaf_val hn h.1
      have e2 : vb = .string (ByteArray.mk #[45]) := h.2.1
      subst e2
      refine (c_CutPrefix s t B w hb ht).mono ?_
      rintro e w' ⟨rfl, h2⟩
      exact ⟨_, rfl, ⟨[.string t, .bool B], rfl, leaf_mk hm flat_str, hl _ _, trivial⟩, h2⟩⟩
theorem I_Cut {ρ : Rho} {n i j : Nat} {s t a b : ByteArray} {B F : Bool} (hn : ρ[n]? = some (.val (.string t))) (hi : ρ[i]? = some (.val (.string a))) (hj : ρ[j]? = some (.val (.string b))) (HP : Pieces s t B F a b) (ht : t.size ≤ 4294967280) : Inst.Ok Tryz.prog ρ ⟨96, [.one (.ref n), .one (.s (ByteArray.mk #[47]))], .tup [.one (.ref i), .one (.ref j), .one (.b F)]⟩ :=
  ⟨enters Tryz.func96 rfl rfl, fun Bk w vs hB h => by
    match vs, h with
    | [va, vb], h =>
      obtain rfl := leaf_val hn h.1
      have e2 : vb = .string (ByteArray.mk #[47]) := h.2.1
      subst e2
      refine (cut_piece HP w ht).mono ?_
      rintro e w' ⟨rfl, h2⟩
      exact ⟨_, rfl, ⟨[.string a, .string b, .bool F], rfl, leaf_mk hi flat_str, leaf_mk hj flat_str, rfl, trivial⟩, h2⟩⟩
theorem q_fFormat (va : Value) (x : Fq) (w : World) (ha : IsQ w va x) (h : x.ok 1000000000) :
    Calls Tryz.prog 45 #[va] w fun e w' => RetV w (.string x.fmt) e w' := by
  by_cases c0 : x.q = 1
  · rcases Bool.eq_false_or_eq_true (x.s) with c1 | c1
    · have z1 := fmt_size x.p
      have z2 := fmt_size x.q
      have z3 := h.p
      have z4 := h.q
      refine (calls_runFn (ρ := [.dig (nl x.p) x.p, .dig (nl x.q) x.q, .val (.string (fmtB x.p)), .row 24 1 [.dig (nl x.q) x.q], .val (.string ((ByteArray.mk #[45]) ++ (fmtB x.p)))]) (w := w) (fuel := 300) (args := [.agg [.b true, .ref 0, .ref 1]]) (vs := [va]) (r := .v (.one (.ref 4)))
        (il_cons (I_nFmt (i := 0) rfl (ls (n := 2) rfl) (Nat.le_trans h.p (by decide))) (il_cons (I_one (n := 3) rfl (decide_eq_true c0) (Nat.le_trans h.q (by decide))) il_nil))
        (ol_cons (o_bs (m := 3) (ss := [nt 1]) (N := 1) (sz := 1) (z := [.sl0]) (qs := [.dig (nl x.q) x.q]) (ix := [0]) (ls := [.ref 1]) Tryz.underlying141 (by kernel_rfl) (by kernel_rfl) (by decide) (by decide) (by decide) rfl (by kernel_rfl) ⟨ql_dig rfl, trivial⟩ rfl) (ol_cons (o_catLR (n := 2) (m := 4) (s := (ByteArray.mk #[45])) (z := (fmtB x.p)) (t := 9) (by kernel_rfl) rfl rfl (by simp only [ByteArray.size_append, bsz, List.size_toArray, List.length_cons, List.length_nil]; omega)) (ol_nil))) (by kernel_rfl) Tryz.func45 (by kernel_rfl) ⟨(inF ha (lb c1) rfl rfl), trivial⟩).mono ?_
      rintro e w' ⟨v, rfl, h1, h2⟩
      have h1 := (leaf_val rfl h1)
      subst h1
      exact ⟨by unfold Fq.fmt; simp [ByteArray.append_assoc, c0, c1], h2⟩
    · have z1 := fmt_size x.p
      have z2 := fmt_size x.q
      have z3 := h.p
      have z4 := h.q
      refine (calls_runFn (ρ := [.dig (nl x.p) x.p, .dig (nl x.q) x.q, .val (.string (fmtB x.p)), .row 24 1 [.dig (nl x.q) x.q]]) (w := w) (fuel := 300) (args := [.agg [.b false, .ref 0, .ref 1]]) (vs := [va]) (r := .v (.one (.ref 2)))
        (il_cons (I_nFmt (i := 0) rfl (ls (n := 2) rfl) (Nat.le_trans h.p (by decide))) (il_cons (I_one (n := 3) rfl (decide_eq_true c0) (Nat.le_trans h.q (by decide))) il_nil))
        (ol_cons (o_bs (m := 3) (ss := [nt 1]) (N := 1) (sz := 1) (z := [.sl0]) (qs := [.dig (nl x.q) x.q]) (ix := [0]) (ls := [.ref 1]) Tryz.underlying141 (by kernel_rfl) (by kernel_rfl) (by decide) (by decide) (by decide) rfl (by kernel_rfl) ⟨ql_dig rfl, trivial⟩ rfl) (ol_nil)) (by kernel_rfl) Tryz.func45 (by kernel_rfl) ⟨(inF ha (lb c1) rfl rfl), trivial⟩).mono ?_
      rintro e w' ⟨v, rfl, h1, h2⟩
      have h1 := (leaf_val rfl h1)
      subst h1
      exact ⟨by unfold Fq.fmt; simp [ByteArray.append_assoc, c0, c1], h2⟩
  · rcases Bool.eq_false_or_eq_true (x.s) with c1 | c1
    · have z1 := fmt_size x.p
      have z2 := fmt_size x.q
      have z3 := h.p
      have z4 := h.q
      refine (calls_runFn (ρ := [.dig (nl x.p) x.p, .dig (nl x.q) x.q, .val (.string (fmtB x.p)), .row 24 1 [.dig (nl x.q) x.q], .val (.string (fmtB x.q)), .val (.string ((ByteArray.mk #[47]) ++ (fmtB x.q))), .val (.string ((fmtB x.p) ++ ((ByteArray.mk #[47]) ++ (fmtB x.q)))), .val (.string ((ByteArray.mk #[45]) ++ ((fmtB x.p) ++ ((ByteArray.mk #[47]) ++ (fmtB x.q)))))]) (w := w) (fuel := 300) (args := [.agg [.b true, .ref 0, .ref 1]]) (vs := [va]) (r := .v (.one (.ref 7)))
        (il_cons (I_nFmt (i := 0) rfl (ls (n := 2) rfl) (Nat.le_trans h.p (by decide))) (il_cons (I_one (n := 3) rfl (decide_eq_false c0) (Nat.le_trans h.q (by decide))) (il_cons (I_nFmt (i := 1) rfl (ls (n := 4) rfl) (Nat.le_trans h.q (by decide))) il_nil)))
        (ol_cons (o_bs (m := 3) (ss := [nt 1]) (N := 1) (sz := 1) (z := [.sl0]) (qs := [.dig (nl x.q) x.q]) (ix := [0]) (ls := [.ref 1]) Tryz.underlying141 (by kernel_rfl) (by kernel_rfl) (by decide) (by decide) (by decide) rfl (by kernel_rfl) ⟨ql_dig rfl, trivial⟩ rfl) (ol_cons (o_catLR (n := 4) (m := 5) (s := (ByteArray.mk #[47])) (z := (fmtB x.q)) (t := 9) (by kernel_rfl) rfl rfl (by simp only [ByteArray.size_append, bsz, List.size_toArray, List.length_cons, List.length_nil]; omega)) (ol_cons (o_catRR (n := 2) (m := 6) (k := 5) (s := (fmtB x.p)) (z := ((ByteArray.mk #[47]) ++ (fmtB x.q))) (t := 9) (by kernel_rfl) rfl rfl rfl (by simp only [ByteArray.size_append, bsz, List.size_toArray, List.length_cons, List.length_nil]; omega)) (ol_cons (o_catLR (n := 6) (m := 7) (s := (ByteArray.mk #[45])) (z := ((fmtB x.p) ++ ((ByteArray.mk #[47]) ++ (fmtB x.q)))) (t := 9) (by kernel_rfl) rfl rfl (by simp only [ByteArray.size_append, bsz, List.size_toArray, List.length_cons, List.length_nil]; omega)) (ol_nil))))) (by kernel_rfl) Tryz.func45 (by kernel_rfl) ⟨(inF ha (lb c1) rfl rfl), trivial⟩).mono ?_
      rintro e w' ⟨v, rfl, h1, h2⟩
      have h1 := (leaf_val rfl h1)
      subst h1
      exact ⟨by unfold Fq.fmt; simp [ByteArray.append_assoc, c0, c1], h2⟩
    · have z1 := fmt_size x.p
      have z2 := fmt_size x.q
      have z3 := h.p
      have z4 := h.q
      refine (calls_runFn (ρ := [.dig (nl x.p) x.p, .dig (nl x.q) x.q, .val (.string (fmtB x.p)), .row 24 1 [.dig (nl x.q) x.q], .val (.string (fmtB x.q)), .val (.string ((ByteArray.mk #[47]) ++ (fmtB x.q))), .val (.string ((fmtB x.p) ++ ((ByteArray.mk #[47]) ++ (fmtB x.q))))]) (w := w) (fuel := 300) (args := [.agg [.b false, .ref 0, .ref 1]]) (vs := [va]) (r := .v (.one (.ref 6)))
        (il_cons (I_nFmt (i := 0) rfl (ls (n := 2) rfl) (Nat.le_trans h.p (by decide))) (il_cons (I_one (n := 3) rfl (decide_eq_false c0) (Nat.le_trans h.q (by decide))) (il_cons (I_nFmt (i := 1) rfl (ls (n := 4) rfl) (Nat.le_trans h.q (by decide))) il_nil)))
        (ol_cons (o_bs (m := 3) (ss := [nt 1]) (N := 1) (sz := 1) (z := [.sl0]) (qs := [.dig (nl x.q) x.q]) (ix := [0]) (ls := [.ref 1]) Tryz.underlying141 (by kernel_rfl) (by kernel_rfl) (by decide) (by decide) (by decide) rfl (by kernel_rfl) ⟨ql_dig rfl, trivial⟩ rfl) (ol_cons (o_catLR (n := 4) (m := 5) (s := (ByteArray.mk #[47])) (z := (fmtB x.q)) (t := 9) (by kernel_rfl) rfl rfl (by simp only [ByteArray.size_append, bsz, List.size_toArray, List.length_cons, List.length_nil]; omega)) (ol_cons (o_catRR (n := 2) (m := 6) (k := 5) (s := (fmtB x.p)) (z := ((ByteArray.mk #[47]) ++ (fmtB x.q))) (t := 9) (by kernel_rfl) rfl rfl rfl (by simp only [ByteArray.size_append, bsz, List.size_toArray, List.length_cons, List.length_nil]; omega)) (ol_nil)))) (by kernel_rfl) Tryz.func45 (by kernel_rfl) ⟨(inF ha (lb c1) rfl rfl), trivial⟩).mono ?_
      rintro e w' ⟨v, rfl, h1, h2⟩
      have h1 := (leaf_val rfl h1)
      subst h1
      exact ⟨by unfold Fq.fmt; simp [ByteArray.append_assoc, c0, c1], h2⟩
theorem fP_num1 (s t a b : ByteArray) (B : Bool) (M : Nat) (c : Int) (w : World) (HP : Pieces s t B true a b) (ht : t.size ≤ 4294967280) (ha : ParseIs a M c) (h0 : c ≠ 0) :
    Calls Tryz.prog 48 #[.string s] w fun e w' => RetQE w Fq.zero c e w' := by
  refine (calls_runFn (ρ := [.val (.string s), .val (.string t), .val (.bool B), .val (.string a), .val (.string b), .dig (nl M) M, .val (.int .i64 c)]) (w := w) (fuel := 300) (args := [.one (.ref 0)]) (vs := [.string s]) (r := .tup [.agg [.b false, .sl0, .sl0], .one (.ref 6)])
    (il_cons (I_CutPrefix (n := 0) (m := 1) rfl rfl (lrb (n := 2) rfl) HP.sign HP.rest) (il_cons (I_Cut (n := 1) (i := 3) (j := 4) rfl rfl rfl HP ht) (il_cons (I_nParse (i := 3) (k := 5) rfl rfl (lr (n := 6) rfl) ha) il_nil)))
    (ol_cons (o_neqK (n := 6) (c := 0) (t := 39) rfl (bneq_t h0)) (ol_nil)) (by kernel_rfl) Tryz.func48 (by kernel_rfl) ⟨leaf_mk (n := 0) rfl flat_str, trivial⟩).mono ?_
  rintro e w' ⟨v, rfl, h1, h2⟩
  obtain ⟨u, rfl, h3⟩ := outT h1 (fun _ _ _ h => leaf_val rfl h)
  exact ⟨u, rfl, outZ h3, h2⟩
theorem fP_num0 (s t a b : ByteArray) (B : Bool) (M : Nat) (c : Int) (w : World) (HP : Pieces s t B false a b) (ht : t.size ≤ 4294967280) (ha : ParseIs a M c) (h0 : c ≠ 0) :
    Calls Tryz.prog 48 #[.string s] w fun e w' => RetQE w Fq.zero c e w' := by
  refine (calls_runFn (ρ := [.val (.string s), .val (.string t), .val (.bool B), .val (.string a), .val (.string b), .dig (nl M) M, .val (.int .i64 c)]) (w := w) (fuel := 300) (args := [.one (.ref 0)]) (vs := [.string s]) (r := .tup [.agg [.b false, .sl0, .sl0], .one (.ref 6)])
    (il_cons (I_CutPrefix (n := 0) (m := 1) rfl rfl (lrb (n := 2) rfl) HP.sign HP.rest) (il_cons (I_Cut (n := 1) (i := 3) (j := 4) rfl rfl rfl HP ht) (il_cons (I_nParse (i := 3) (k := 5) rfl rfl (lr (n := 6) rfl) ha) il_nil)))
    (ol_cons (o_neqK (n := 6) (c := 0) (t := 39) rfl (bneq_t h0)) (ol_nil)) (by kernel_rfl) Tryz.func48 (by kernel_rfl) ⟨leaf_mk (n := 0) rfl flat_str, trivial⟩).mono ?_
  rintro e w' ⟨v, rfl, h1, h2⟩
  obtain ⟨u, rfl, h3⟩ := outT h1 (fun _ _ _ h => leaf_val rfl h)
  exact ⟨u, rfl, outZ h3, h2⟩
theorem fP_den (s t a b : ByteArray) (B : Bool) (M N : Nat) (c : Int) (w : World) (HP : Pieces s t B true a b) (ht : t.size ≤ 4294967280) (ha : ParseIs a M 0) (hb : ParseIs b N c) (h0 : c ≠ 0) :
    Calls Tryz.prog 48 #[.string s] w fun e w' => RetQE w Fq.zero c e w' := by
  refine (calls_runFn (ρ := [.val (.string s), .val (.string t), .val (.bool B), .val (.string a), .val (.string b), .dig (nl M) M, .dig (nl 1) 1, .dig (nl N) N, .val (.int .i64 c)]) (w := w) (fuel := 300) (args := [.one (.ref 0)]) (vs := [.string s]) (r := .tup [.agg [.b false, .sl0, .sl0], .one (.ref 8)])
    (il_cons (I_CutPrefix (n := 0) (m := 1) rfl rfl (lrb (n := 2) rfl) HP.sign HP.rest) (il_cons (I_Cut (n := 1) (i := 3) (j := 4) rfl rfl rfl HP ht) (il_cons (I_nParse (i := 3) (k := 5) rfl rfl (li rfl) ha) (il_cons (I_nOf (k := 6) rfl (by decide)) (il_cons (I_nParse (i := 4) (k := 7) rfl rfl (lr (n := 8) rfl) hb) il_nil)))))
    (ol_cons (o_neqK (n := 8) (c := 0) (t := 39) rfl (bneq_t h0)) (ol_nil)) (by kernel_rfl) Tryz.func48 (by kernel_rfl) ⟨leaf_mk (n := 0) rfl flat_str, trivial⟩).mono ?_
  rintro e w' ⟨v, rfl, h1, h2⟩
  obtain ⟨u, rfl, h3⟩ := outT h1 (fun _ _ _ h => leaf_val rfl h)
  exact ⟨u, rfl, outZ h3, h2⟩
theorem fP_g1 (s t a b : ByteArray) (B : Bool) (M N : Nat) (w : World) (HP : Pieces s t B true a b) (ht : t.size ≤ 4294967280) (ha : ParseIs a M 0) (hb : ParseIs b N 0) (hN : ¬ N = 1) (hv : (Fq.mk B M N).valid = true) :
    Calls Tryz.prog 48 #[.string s] w fun e w' => RetQE w ⟨B, M, N⟩ 0 e w' := by
  refine (calls_runFn (ρ := [.val (.string s), .val (.string t), .val (.bool B), .val (.string a), .val (.string b), .dig (nl M) M, .dig (nl 1) 1, .dig (nl N) N, .row 24 1 [.dig (nl N) N]]) (w := w) (fuel := 300) (args := [.one (.ref 0)]) (vs := [.string s]) (r := .tup [q3 2 5 7, .one (.i .i64 0)])
    (il_cons (I_CutPrefix (n := 0) (m := 1) rfl rfl (lrb (n := 2) rfl) HP.sign HP.rest) (il_cons (I_Cut (n := 1) (i := 3) (j := 4) rfl rfl rfl HP ht) (il_cons (I_nParse (i := 3) (k := 5) rfl rfl (li rfl) ha) (il_cons (I_nOf (k := 6) rfl (by decide)) (il_cons (I_nParse (i := 4) (k := 7) rfl rfl (li rfl) hb) (il_cons (I_one (n := 8) rfl (decide_eq_false hN) (Nat.le_trans (parse_nlU hb) (by decide))) (il_cons (J_fValid (fat_mk (l := .ref 2) (a := 5) (b := 7) (x := (Fq.mk B M N)) (lrb (n := 2) rfl) (br (n := 2) rfl) rfl rfl) hv (Nat.le_trans (parse_nlU ha) (by decide)) (Nat.le_trans (parse_nlU hb) (by decide))) il_nil)))))))
    (ol_cons (o_bs (m := 8) (ss := [nt 7]) (N := 1) (sz := 1) (z := [.sl0]) (qs := [.dig (nl N) N]) (ix := [0]) (ls := [.ref 7]) Tryz.underlying141 (by kernel_rfl) (by kernel_rfl) (by decide) (by decide) (by decide) rfl (by kernel_rfl) ⟨ql_dig rfl, trivial⟩ rfl) (ol_nil)) (by kernel_rfl) Tryz.func48 (by kernel_rfl) ⟨leaf_mk (n := 0) rfl flat_str, trivial⟩).mono ?_
  rintro e w' ⟨v, rfl, h1, h2⟩
  obtain ⟨u, rfl, h3⟩ := outT h1 (fun _ _ _ h => h)
  exact ⟨u, rfl, outF h3 (br (n := 2) rfl) rfl rfl (rfl) (rfl) (rfl), h2⟩
theorem fP_b1 (s t a b : ByteArray) (B : Bool) (M N : Nat) (w : World) (HP : Pieces s t B true a b) (ht : t.size ≤ 4294967280) (ha : ParseIs a M 0) (hb : ParseIs b N 0) (hN : N = 1) :
    Calls Tryz.prog 48 #[.string s] w fun e w' => RetQE w Fq.zero 2 e w' := by
  refine (calls_runFn (ρ := [.val (.string s), .val (.string t), .val (.bool B), .val (.string a), .val (.string b), .dig (nl M) M, .dig (nl 1) 1, .dig (nl N) N, .row 24 1 [.dig (nl N) N]]) (w := w) (fuel := 300) (args := [.one (.ref 0)]) (vs := [.string s]) (r := .tup [.agg [.b false, .sl0, .sl0], .one (.i .i64 2)])
    (il_cons (I_CutPrefix (n := 0) (m := 1) rfl rfl (lrb (n := 2) rfl) HP.sign HP.rest) (il_cons (I_Cut (n := 1) (i := 3) (j := 4) rfl rfl rfl HP ht) (il_cons (I_nParse (i := 3) (k := 5) rfl rfl (li rfl) ha) (il_cons (I_nOf (k := 6) rfl (by decide)) (il_cons (I_nParse (i := 4) (k := 7) rfl rfl (li rfl) hb) (il_cons (I_one (n := 8) rfl (decide_eq_true hN) (Nat.le_trans (parse_nlU hb) (by decide))) il_nil))))))
    (ol_cons (o_bs (m := 8) (ss := [nt 7]) (N := 1) (sz := 1) (z := [.sl0]) (qs := [.dig (nl N) N]) (ix := [0]) (ls := [.ref 7]) Tryz.underlying141 (by kernel_rfl) (by kernel_rfl) (by decide) (by decide) (by decide) rfl (by kernel_rfl) ⟨ql_dig rfl, trivial⟩ rfl) (ol_nil)) (by kernel_rfl) Tryz.func48 (by kernel_rfl) ⟨leaf_mk (n := 0) rfl flat_str, trivial⟩).mono ?_
  rintro e w' ⟨v, rfl, h1, h2⟩
  obtain ⟨u, rfl, h3⟩ := outT h1 (fun _ _ _ h => h)
  exact ⟨u, rfl, outZ h3, h2⟩
theorem fP_b2 (s t a b : ByteArray) (B : Bool) (M N : Nat) (w : World) (HP : Pieces s t B true a b) (ht : t.size ≤ 4294967280) (ha : ParseIs a M 0) (hb : ParseIs b N 0) (hN : ¬ N = 1) (hv : (Fq.mk B M N).valid = false) :
    Calls Tryz.prog 48 #[.string s] w fun e w' => RetQE w Fq.zero 2 e w' := by
  refine (calls_runFn (ρ := [.val (.string s), .val (.string t), .val (.bool B), .val (.string a), .val (.string b), .dig (nl M) M, .dig (nl 1) 1, .dig (nl N) N, .row 24 1 [.dig (nl N) N]]) (w := w) (fuel := 300) (args := [.one (.ref 0)]) (vs := [.string s]) (r := .tup [.agg [.b false, .sl0, .sl0], .one (.i .i64 2)])
    (il_cons (I_CutPrefix (n := 0) (m := 1) rfl rfl (lrb (n := 2) rfl) HP.sign HP.rest) (il_cons (I_Cut (n := 1) (i := 3) (j := 4) rfl rfl rfl HP ht) (il_cons (I_nParse (i := 3) (k := 5) rfl rfl (li rfl) ha) (il_cons (I_nOf (k := 6) rfl (by decide)) (il_cons (I_nParse (i := 4) (k := 7) rfl rfl (li rfl) hb) (il_cons (I_one (n := 8) rfl (decide_eq_false hN) (Nat.le_trans (parse_nlU hb) (by decide))) (il_cons (J_fValid (fat_mk (l := .ref 2) (a := 5) (b := 7) (x := (Fq.mk B M N)) (lrb (n := 2) rfl) (br (n := 2) rfl) rfl rfl) hv (Nat.le_trans (parse_nlU ha) (by decide)) (Nat.le_trans (parse_nlU hb) (by decide))) il_nil)))))))
    (ol_cons (o_bs (m := 8) (ss := [nt 7]) (N := 1) (sz := 1) (z := [.sl0]) (qs := [.dig (nl N) N]) (ix := [0]) (ls := [.ref 7]) Tryz.underlying141 (by kernel_rfl) (by kernel_rfl) (by decide) (by decide) (by decide) rfl (by kernel_rfl) ⟨ql_dig rfl, trivial⟩ rfl) (ol_nil)) (by kernel_rfl) Tryz.func48 (by kernel_rfl) ⟨leaf_mk (n := 0) rfl flat_str, trivial⟩).mono ?_
  rintro e w' ⟨v, rfl, h1, h2⟩
  obtain ⟨u, rfl, h3⟩ := outT h1 (fun _ _ _ h => h)
  exact ⟨u, rfl, outZ h3, h2⟩
theorem fP_g0 (s t a b : ByteArray) (B : Bool) (M : Nat) (w : World) (HP : Pieces s t B false a b) (ht : t.size ≤ 4294967280) (ha : ParseIs a M 0) (hv : (Fq.mk B M 1).valid = true) :
    Calls Tryz.prog 48 #[.string s] w fun e w' => RetQE w ⟨B, M, 1⟩ 0 e w' := by
  refine (calls_runFn (ρ := [.val (.string s), .val (.string t), .val (.bool B), .val (.string a), .val (.string b), .dig (nl M) M, .dig (nl 1) 1]) (w := w) (fuel := 300) (args := [.one (.ref 0)]) (vs := [.string s]) (r := .tup [q3 2 5 6, .one (.i .i64 0)])
    (il_cons (I_CutPrefix (n := 0) (m := 1) rfl rfl (lrb (n := 2) rfl) HP.sign HP.rest) (il_cons (I_Cut (n := 1) (i := 3) (j := 4) rfl rfl rfl HP ht) (il_cons (I_nParse (i := 3) (k := 5) rfl rfl (li rfl) ha) (il_cons (I_nOf (k := 6) rfl (by decide)) (il_cons (J_fValid (fat_mk (l := .ref 2) (a := 5) (b := 6) (x := (Fq.mk B M 1)) (lrb (n := 2) rfl) (br (n := 2) rfl) rfl rfl) hv (Nat.le_trans (parse_nlU ha) (by decide)) (Nat.le_trans nl_one (by decide))) il_nil)))))
    ol_nil (by kernel_rfl) Tryz.func48 (by kernel_rfl) ⟨leaf_mk (n := 0) rfl flat_str, trivial⟩).mono ?_
  rintro e w' ⟨v, rfl, h1, h2⟩
  obtain ⟨u, rfl, h3⟩ := outT h1 (fun _ _ _ h => h)
  exact ⟨u, rfl, outF h3 (br (n := 2) rfl) rfl rfl (rfl) (rfl) (rfl), h2⟩
theorem fP_b0 (s t a b : ByteArray) (B : Bool) (M : Nat) (w : World) (HP : Pieces s t B false a b) (ht : t.size ≤ 4294967280) (ha : ParseIs a M 0) (hv : (Fq.mk B M 1).valid = false) :
    Calls Tryz.prog 48 #[.string s] w fun e w' => RetQE w Fq.zero 2 e w' := by
  refine (calls_runFn (ρ := [.val (.string s), .val (.string t), .val (.bool B), .val (.string a), .val (.string b), .dig (nl M) M, .dig (nl 1) 1]) (w := w) (fuel := 300) (args := [.one (.ref 0)]) (vs := [.string s]) (r := .tup [.agg [.b false, .sl0, .sl0], .one (.i .i64 2)])
    (il_cons (I_CutPrefix (n := 0) (m := 1) rfl rfl (lrb (n := 2) rfl) HP.sign HP.rest) (il_cons (I_Cut (n := 1) (i := 3) (j := 4) rfl rfl rfl HP ht) (il_cons (I_nParse (i := 3) (k := 5) rfl rfl (li rfl) ha) (il_cons (I_nOf (k := 6) rfl (by decide)) (il_cons (J_fValid (fat_mk (l := .ref 2) (a := 5) (b := 6) (x := (Fq.mk B M 1)) (lrb (n := 2) rfl) (br (n := 2) rfl) rfl rfl) hv (Nat.le_trans (parse_nlU ha) (by decide)) (Nat.le_trans nl_one (by decide))) il_nil)))))
    ol_nil (by kernel_rfl) Tryz.func48 (by kernel_rfl) ⟨leaf_mk (n := 0) rfl flat_str, trivial⟩).mono ?_
  rintro e w' ⟨v, rfl, h1, h2⟩
  obtain ⟨u, rfl, h3⟩ := outT h1 (fun _ _ _ h => h)
  exact ⟨u, rfl, outZ h3, h2⟩
theorem q_fParse (s : ByteArray) (x : Fq) (c : Int) (w : World) (h : FP s x c) (hs : s.size ≤ 4294967280) : Calls Tryz.prog 48 #[.string s] w fun e w' => RetQE w x c e w' := by
  cases h with
  | @num t B F a b M c HP ha h0 =>
    have ht := Nat.le_trans (pieces_size HP) hs
    cases F
    · exact fP_num0 s t a b B M c w HP ht ha h0
    · exact fP_num1 s t a b B M c w HP ht ha h0
  | @den t B a b M N c HP ha hb h0 => exact fP_den s t a b B M N c w HP (Nat.le_trans (pieces_size HP) hs) ha hb h0
  | @bad t B F a b M N HP ha hb hv =>
    have ht := Nat.le_trans (pieces_size HP) hs
    cases F with
    | false => exact fP_b0 s t a b B M w HP ht ha (by simpa [parseV] using hv)
    | true =>
      by_cases hN : N = 1
      · exact fP_b1 s t a b B M N w HP ht ha (hb rfl) hN
      · exact fP_b2 s t a b B M N w HP ht ha (hb rfl) hN (by simpa [parseV, hN] using hv)
  | @good t B F a b M N HP ha hb hv =>
    have ht := Nat.le_trans (pieces_size HP) hs
    cases F with
    | false => exact fP_g0 s t a b B M w HP ht ha (by simpa [parseV] using hv)
    | true =>
      have hv' : ¬ N = 1 ∧ (Fq.mk B M N).valid = true := by simpa [parseV] using hv
      exact fP_g1 s t a b B M N w HP ht ha (hb rfl) hv'.1 hv'.2
end Go.Proofs.YthebfmlfgfmlnaaGreatDoor
namespace Go.Proofs.YthebfmlfgfmlnaaGreatDoor
set_option linter.unusedSimpArgs false
set_option linter.unusedVariables false
set_option maxRecDepth 100000
open Go.RowKit
structure IdxIs (t : ByteArray) (F : Bool) (i : Nat) : Prop where
  le : i ≤ t.size
  before : ∀ j, j < i → by' t j ≠ 47
  hit : F = true → i < t.size ∧ by' t i = 47
  miss : F = false → i = t.size
section
variable {ρ : Rho} {n m k : Nat} {s z : ByteArray} {t : TypeId} {u c : Int}
end
end Go.Proofs.YthebfmlfgfmlnaaGreatDoor
namespace Go.Proofs.YthebfmlfgfmlnaaGreatDoor
set_option linter.unusedSimpArgs false
set_option linter.unusedVariables false
set_option maxRecDepth 100000
open Go.RowKit
theorem by_data (s : ByteArray) (i : Nat) : by' s i = (s.data[i]?.map UInt8.toNat).getD 0 := by
  unfold by'
  by_cases h : i < s.size
  · rw [dif_pos h, Array.getElem?_eq_getElem (show i < s.data.size from h)]; rfl
  · rw [dif_neg h, Array.getElem?_eq_none (by have : s.data.size = s.size := rfl; omega)]; rfl
theorem by_ext {s t : ByteArray} (h : s.size = t.size) (hb : ∀ i, i < s.size → by' s i = by' t i) : s = t := by
  have e : s.data = t.data := by
    apply Array.ext h
    intro i h1 h2
    have := hb i h1
    unfold by' at this
    rw [dif_pos (show i < s.size from h1), dif_pos (show i < t.size from h2)] at this
    exact UInt8.toNat_inj.1 this
  cases s; cases t; simp only at e; subst e; rfl
theorem by_app (a b : ByteArray) (i : Nat) : by' (a ++ b) i = if i < a.size then by' a i else by' b (i - a.size) := by
  rw [by_data, by_data, by_data, ByteArray.data_append, Array.getElem?_append]
  have e : a.data.size = a.size := rfl
  rw [e]
  split <;> rfl
theorem by_ex (s : ByteArray) (i j k : Nat) (hj : j ≤ s.size) (hk : k < j - i) : by' (s.extract i j) k = by' s (i + k) := by
  rw [by_data, by_data, ByteArray.data_extract, Array.getElem?_extract]
  have e : s.data.size = s.size := rfl
  rw [e, if_pos (by omega)]
theorem cut_app (a b : ByteArray) (i : Nat) (h : a.size = i) : (a ++ b).extract 0 i = a := by
  subst h
  apply by_ext
  · rw [ByteArray.size_extract, ByteArray.size_append]; omega
  · intro k hk
    rw [ByteArray.size_extract, ByteArray.size_append] at hk
    rw [by_ex _ _ _ _ (by rw [ByteArray.size_append]; omega) (by omega), Nat.zero_add, by_app, if_pos (by omega)]
theorem tail_app (a b : ByteArray) (i : Nat) (h : a.size = i) : (a ++ b).extract i (a ++ b).size = b := by
  subst h
  apply by_ext
  · rw [ByteArray.size_extract, ByteArray.size_append]; omega
  · intro k hk
    rw [ByteArray.size_extract, ByteArray.size_append] at hk
    rw [by_ex _ _ _ _ (Nat.le_refl _) (by rw [ByteArray.size_append]; omega), by_app, if_neg (by omega)]
    congr 1; omega
theorem parse_good {s : ByteArray} {N : Nat} (h : ParseIs s N 0) : 0 < s.size ∧ goodTo s s.size := by
  have h1 : 0 < s.size := by
    rcases Nat.eq_zero_or_pos s.size with h' | h'
    · have := (h.short h').2; omega
    · exact h'
  have h2 : s.size ≤ 400 := by
    rcases Nat.lt_or_ge 400 s.size with h' | h'
    · have := (h.long h').2; omega
    · exact h'
  exact ⟨h1, Classical.byContradiction fun h' => by have := (h.bad h1 h2 h').2; omega⟩
/-- What is written is read. -/
theorem fmt_fp {x : Fq} (hv : x.valid = true) (hp : nl x.p ≤ 12) (hq : nl x.q ≤ 12) : FP x.fmt x 0 := by
  obtain ⟨S, p, q⟩ := x
  have ha := fmt_parses p hp
  have hb := fmt_parses q hq
  obtain ⟨a1, a2⟩ := parse_good ha
  obtain ⟨b1, b2⟩ := parse_good hb
  obtain ⟨t, ht⟩ : ∃ t, t = if q = 1 then fmtB p else fmtB p ++ (({ data := #[47] } : ByteArray) ++ fmtB q) := ⟨_, rfl⟩
  have t0 : 0 < t.size ∧ by' t 0 ≠ 45 := by
    have h0 := a2 0 a1
    rw [ht]
    split
    · exact ⟨a1, by omega⟩
    · rw [ByteArray.size_append, by_app, if_pos a1]; exact ⟨by omega, by omega⟩
  have hs47 : ({ data := #[47] } : ByteArray).size = 1 := rfl
  have hs45 : ({ data := #[45] } : ByteArray).size = 1 := rfl
  obtain ⟨s, hs⟩ : ∃ s, s = if S then ({ data := #[45] } : ByteArray) ++ t else t := ⟨_, rfl⟩
  have hfmt : (Fq.mk S p q).fmt = s := by unfold Fq.fmt; rw [hs, ht]
  rw [hfmt]
  have hP : Pieces s t S (decide (q ≠ 1)) (fmtB p) (if q = 1 then { data := #[] } else fmtB q) := by
    refine ⟨?_, ?_, fun hF => ?_, fun hF => ?_⟩
    · rw [hs]
      cases S with
      | true => rw [if_pos rfl]; apply decide_eq_true; refine ⟨by rw [ByteArray.size_append, hs45]; omega, ?_⟩; rw [by_app, hs45, if_pos (by omega)]; rfl
      | false => rw [if_neg Bool.false_ne_true]; exact decide_eq_false (fun h => t0.2 h.2)
    · rw [hs]
      cases S with
      | true => rw [if_pos rfl, if_pos rfl]; exact (tail_app _ _ 1 hs45).symm
      | false => rw [if_neg Bool.false_ne_true, if_neg Bool.false_ne_true]
    · have hq1 : q ≠ 1 := of_decide_eq_true hF
      rw [if_neg hq1] at ht ⊢
      refine ⟨(fmtB p).size, ⟨?_, ?_, fun j hj => ?_⟩, ?_, ?_⟩
      · rw [ht, ByteArray.size_append, ByteArray.size_append, hs47]; omega
      · rw [ht, by_app, if_neg (by omega), Nat.sub_self, by_app, hs47, if_pos (by omega)]; rfl
      · rw [ht, by_app, if_pos hj]; have := a2 j hj; omega
      · rw [ht]; exact (cut_app _ _ _ rfl).symm
      · rw [ht, ← ByteArray.append_assoc]
        refine (tail_app _ _ _ ?_).symm
        rw [ByteArray.size_append, hs47]
    · have hq1 : q = 1 := Classical.byContradiction fun h => by rw [decide_eq_true h] at hF; cases hF
      rw [if_pos hq1] at ht ⊢
      refine ⟨fun j hj => ?_, ht.symm, rfl⟩
      rw [ht] at hj ⊢
      have := a2 j hj; omega
  by_cases hq1 : q = 1
  · have hF : decide (q ≠ 1) = false := decide_eq_false (fun h => h hq1)
    rw [hF, if_pos hq1] at hP
    subst hq1
    exact FP.good (N := 1) hP ha (fun h => by cases h) hv
  · have hF : decide (q ≠ 1) = true := decide_eq_true hq1
    rw [hF, if_neg hq1] at hP
    exact FP.good hP ha (fun _ => hb) (by show (!decide (q = 1) && (Fq.mk S p q).valid) = true; rw [decide_eq_false hq1, hv]; rfl)
/-- What is read is small. -/
theorem fp_ok {s : ByteArray} {x : Fq} {c : Int} (h : FP s x c) : nl x.p ≤ 400 ∧ nl x.q ≤ 400 ∧ (c = 0 → x.q ≠ 0) := by
  cases h with
  | num h ha h0 => exact ⟨by decide, by decide, fun h => absurd h h0⟩
  | den h ha hb h0 => exact ⟨by decide, by decide, fun h => absurd h h0⟩
  | bad h ha hb hv => exact ⟨by decide, by decide, fun h => (by cases h)⟩
  | good h ha hb hv =>
    rename_i t B F a b M N
    refine ⟨parse_nlU ha, ?_, fun _ => ?_⟩
    · cases F with
      | true => exact parse_nlU (hb rfl)
      | false => exact show nl 1 ≤ 400 by decide
    · cases F with
      | true =>
        have h2 : (!decide (N = 1) && (Fq.mk B M N).valid) = true := hv
        rw [Bool.and_eq_true] at h2
        exact (of_decide_eq_true h2.2).1
      | false => exact Nat.one_ne_zero
end Go.Proofs.YthebfmlfgfmlnaaGreatDoor
namespace Go.Proofs.YthebfmlfgfmlnaaGreatDoor
set_option linter.unusedSimpArgs false
set_option linter.unusedVariables false
set_option maxRecDepth 100000
open Go.RowKit
abbrev b1 (c : UInt8) : ByteArray := { data := #[c] }
/-- The first c stands at i; there is none. -/
def ChAt (c : UInt8) (u : ByteArray) (i : Nat) : Prop := i < u.size ∧ by' u i = c.toNat ∧ ∀ k, k < i → by' u k ≠ c.toNat
def ChNo (c : UInt8) (u : ByteArray) : Prop := ∀ k, k < u.size → by' u k ≠ c.toNat
section
variable {c : UInt8} {u s : ByteArray} {i j a b : Nat}
theorem ch_cases (c : UInt8) (u : ByteArray) : (∃ i, ChAt c u i) ∨ ChNo c u := by
  by_cases h : ∃ i, i < u.size ∧ by' u i = c.toNat
  · refine .inl ?_
    obtain ⟨i, hi⟩ := h
    induction i using Nat.strongRecOn with
    | ind i ih =>
      by_cases h2 : ∃ j, j < i ∧ by' u j = c.toNat
      · obtain ⟨j, h3, h4⟩ := h2; exact ih j h3 ⟨by omega, h4⟩
      · exact ⟨i, hi.1, hi.2, fun j hj he => h2 ⟨j, hj, he⟩⟩
  · exact .inr (fun j hj he => h ⟨j, hj, he⟩)
theorem ch_index (h : ChAt c u i) : Lib.indexB u (b1 c) = (i : Int) := by
  show Lib.index u.data.toList [c] = _
  rw [Lib.index_one]
  exact idx_hit _ i c ((list_at u i h.1 c).2 h.2.1) (fun j hj he => h.2.2 j hj ((list_at u j (by have := h.1; omega) c).1 he))
theorem ch_none (h : ChNo c u) : Lib.indexB u (b1 c) = -1 := by
  show Lib.index u.data.toList [c] = _
  rw [Lib.index_one]
  exact idx_miss _ c (fun j he => by
    have hj : j < u.size := by
      have : j < u.data.toList.length := (List.getElem?_eq_some_iff.1 he).1
      simpa using this
    exact h j hj ((list_at u j hj c).1 he))
theorem ch_count (h : ChAt c u i) : Lib.countB u (b1 c) = 1 + Lib.countB (u.extract (i + 1) u.size) (b1 c) := Lib.countB_hit u (b1 c) i (Nat.le_refl 1) (ch_index h)
theorem ch_count0 (h : ChNo c u) : Lib.countB u (b1 c) = 0 := Lib.countB_miss u (b1 c) (ch_none h)
theorem by_tail (hk : i + j < u.size) : by' (u.extract i u.size) j = by' u (i + j) := by_ex u i u.size j (Nat.le_refl _) (by omega)
theorem sz_ex (hj : j ≤ u.size) : (u.extract i j).size = j - i := by rw [ByteArray.size_extract]; omega
/-- Just two, at a and at b. -/
def Ch2 (c : UInt8) (u : ByteArray) (a b : Nat) : Prop := a < b ∧ b < u.size ∧ by' u a = c.toNat ∧ by' u b = c.toNat ∧ ∀ k, k < u.size → by' u k = c.toNat → k = a ∨ k = b
theorem ex_ex (hj : j ≤ u.size) (hb : b ≤ j - i) : (u.extract i j).extract a b = u.extract (i + a) (i + b) := by
  by_cases hab : a ≤ b
  · refine by_ext ?_ fun k hk => ?_
    · simp only [ByteArray.size_extract]; omega
    · rw [sz_ex (by rw [sz_ex hj]; exact hb)] at hk
      rw [by_ex _ _ _ _ (by rw [sz_ex hj]; exact hb) hk, by_ex _ _ _ _ hj (by omega), by_ex _ _ _ _ (by omega) (by omega), Nat.add_assoc]
  · refine by_ext ?_ fun k hk => ?_
    · simp only [ByteArray.size_extract]; omega
    · rw [sz_ex (by rw [sz_ex hj]; exact hb)] at hk; omega
end
/-- How the text of a vector falls into brackets and three parts. -/
def VCut (s : ByteArray) (i j : Nat) : Prop := 2 ≤ s.size ∧ by' s 0 = 40 ∧ by' s (s.size - 1) = 41 ∧ Ch2 32 s i j
def Vq.zero : Vq := ⟨.zero, .zero, .zero⟩
/-- What a text is read as. -/
inductive VP (s : ByteArray) : Vq → Int → Prop
  | form (h : ∀ i j, ¬ VCut s i j) : VP s .zero 2
  | e0 {i j x c} (h : VCut s i j) (hx : FP (s.extract 1 i) x c) (h0 : c ≠ 0) : VP s .zero c
  | e1 {i j x y c} (h : VCut s i j) (hx : FP (s.extract 1 i) x 0) (hy : FP (s.extract (i + 1) j) y c) (h0 : c ≠ 0) : VP s .zero c
  | e2 {i j x y z c} (h : VCut s i j) (hx : FP (s.extract 1 i) x 0) (hy : FP (s.extract (i + 1) j) y 0) (hz : FP (s.extract (j + 1) (s.size - 1)) z c) (h0 : c ≠ 0) : VP s .zero c
  | good {i j x y z} (h : VCut s i j) (hx : FP (s.extract 1 i) x 0) (hy : FP (s.extract (i + 1) j) y 0) (hz : FP (s.extract (j + 1) (s.size - 1)) z 0) : VP s ⟨x, y, z⟩ 0
end Go.Proofs.YthebfmlfgfmlnaaGreatDoor
namespace Go.Proofs
open Go.Shelf
def Tryz.lays138_ren : Go.Shelf.Ren := ⟨fun | 138 => 144 | 195 => 167 | 218 => 169 | 143 => 145 | 219 => 170 | 217 => 181 | 225 => 182 | 224 => 183 | 267 => 184 | 266 => 186 | 314 => 187 | n => n, fun | 9 => 9 | 3 => 3 | 4 => 4 | 5 => 5 | 0 => 0 | 46 => 145 | 146 => 153 | 51 => 37 | n => n, fun | 1 => 1 | n => n⟩
theorem Tryz.lays138 : Go.Proofs.Lays.n138 Tryz.prog Tryz.lays138_ren := {
  mixed := by kernel_rfl
  f138 := Tryz.func144.trans (congrArg some (by kernel_rfl))
  f143 := Tryz.func145.trans (congrArg some (by kernel_rfl))
  f195 := Tryz.func167.trans (congrArg some (by kernel_rfl))
  f217 := Tryz.func181.trans (congrArg some (by kernel_rfl))
  f218 := Tryz.func169.trans (congrArg some (by kernel_rfl))
  f219 := Tryz.func170.trans (congrArg some (by kernel_rfl))
  f224 := Tryz.func183.trans (congrArg some (by kernel_rfl))
  f225 := Tryz.func182.trans (congrArg some (by kernel_rfl))
  f266 := Tryz.func186.trans (congrArg some (by kernel_rfl))
  f267 := Tryz.func184.trans (congrArg some (by kernel_rfl))
  f314 := Tryz.func187.trans (congrArg some (by kernel_rfl))
  t0 := Tryz.underlying0
  a0 := Tryz.isAgg0
  z0 := Tryz.sizeOf0
  v0 := Tryz.zeroValue0
  t3 := Tryz.underlying3
  a3 := Tryz.isAgg3
  z3 := Tryz.sizeOf3
  v3 := Tryz.zeroValue3
  t4 := Tryz.underlying4
  a4 := Tryz.isAgg4
  z4 := Tryz.sizeOf4
  v4 := Tryz.zeroValue4
  t5 := Tryz.underlying5
  a5 := Tryz.isAgg5
  z5 := Tryz.sizeOf5
  v5 := Tryz.zeroValue5
  t9 := Tryz.underlying9
  a9 := Tryz.isAgg9
  z9 := Tryz.sizeOf9
  v9 := Tryz.zeroValue9
  t46 := Tryz.underlying145
  a46 := Tryz.isAgg145
  z46 := Tryz.sizeOf145
  v46 := Tryz.zeroValue145
  t51 := Tryz.underlying37
  a51 := Tryz.isAgg37
  z51 := Tryz.sizeOf37
  v51 := Tryz.zeroValue37
  t146 := Tryz.underlying153
  a146 := Tryz.isAgg153
  z146 := Tryz.sizeOf153
  v146 := Tryz.zeroValue153
  g1 := by kernel_rfl }
def Tryz.lays146_ren : Go.Shelf.Ren := ⟨fun | 146 => 47 | 221 => 94 | 268 => 143 | 138 => 144 | 143 => 145 | 195 => 167 | 197 => 168 | 218 => 169 | 219 => 170 | 260 => 180 | 217 => 181 | 225 => 182 | 224 => 183 | 267 => 184 | 266 => 186 | 314 => 187 | n => n, fun | 9 => 9 | 31 => 64 | 3 => 3 | 4 => 4 | 0 => 0 | 105 => 160 | 21 => 21 | 5 => 5 | 46 => 145 | 119 => 170 | 139 => 173 | 138 => 172 | 146 => 153 | 51 => 37 | n => n, fun | 1 => 1 | 3 => 2 | 4 => 3 | n => n⟩
theorem Tryz.lays146 : Go.Proofs.Lays.n146 Tryz.prog Tryz.lays146_ren := {
  mixed := by kernel_rfl
  f138 := Tryz.func144.trans (congrArg some (by kernel_rfl))
  f143 := Tryz.func145.trans (congrArg some (by kernel_rfl))
  f146 := Tryz.func47.trans (congrArg some (by kernel_rfl))
  f195 := Tryz.func167.trans (congrArg some (by kernel_rfl))
  f197 := Tryz.func168.trans (congrArg some (by kernel_rfl))
  f217 := Tryz.func181.trans (congrArg some (by kernel_rfl))
  f218 := Tryz.func169.trans (congrArg some (by kernel_rfl))
  f219 := Tryz.func170.trans (congrArg some (by kernel_rfl))
  f221 := Tryz.func94.trans (congrArg some (by kernel_rfl))
  f224 := Tryz.func183.trans (congrArg some (by kernel_rfl))
  f225 := Tryz.func182.trans (congrArg some (by kernel_rfl))
  f260 := Tryz.func180.trans (congrArg some (by kernel_rfl))
  f266 := Tryz.func186.trans (congrArg some (by kernel_rfl))
  f267 := Tryz.func184.trans (congrArg some (by kernel_rfl))
  f268 := Tryz.func143.trans (congrArg some (by kernel_rfl))
  f314 := Tryz.func187.trans (congrArg some (by kernel_rfl))
  t0 := Tryz.underlying0
  a0 := Tryz.isAgg0
  z0 := Tryz.sizeOf0
  v0 := Tryz.zeroValue0
  t3 := Tryz.underlying3
  a3 := Tryz.isAgg3
  z3 := Tryz.sizeOf3
  v3 := Tryz.zeroValue3
  t4 := Tryz.underlying4
  a4 := Tryz.isAgg4
  z4 := Tryz.sizeOf4
  v4 := Tryz.zeroValue4
  t5 := Tryz.underlying5
  a5 := Tryz.isAgg5
  z5 := Tryz.sizeOf5
  v5 := Tryz.zeroValue5
  t9 := Tryz.underlying9
  a9 := Tryz.isAgg9
  z9 := Tryz.sizeOf9
  v9 := Tryz.zeroValue9
  t21 := Tryz.underlying21
  a21 := Tryz.isAgg21
  z21 := Tryz.sizeOf21
  v21 := Tryz.zeroValue21
  t31 := Tryz.underlying64
  a31 := Tryz.isAgg64
  z31 := Tryz.sizeOf64
  v31 := Tryz.zeroValue64
  t46 := Tryz.underlying145
  a46 := Tryz.isAgg145
  z46 := Tryz.sizeOf145
  v46 := Tryz.zeroValue145
  t51 := Tryz.underlying37
  a51 := Tryz.isAgg37
  z51 := Tryz.sizeOf37
  v51 := Tryz.zeroValue37
  t105 := Tryz.underlying160
  a105 := Tryz.isAgg160
  z105 := Tryz.sizeOf160
  v105 := Tryz.zeroValue160
  t119 := Tryz.underlying170
  a119 := Tryz.isAgg170
  z119 := Tryz.sizeOf170
  t138 := Tryz.underlying172
  a138 := Tryz.isAgg172
  z138 := Tryz.sizeOf172
  v138 := Tryz.zeroValue172
  t139 := Tryz.underlying173
  a139 := Tryz.isAgg173
  z139 := Tryz.sizeOf173
  v139 := Tryz.zeroValue173
  t146 := Tryz.underlying153
  a146 := Tryz.isAgg153
  z146 := Tryz.sizeOf153
  v146 := Tryz.zeroValue153
  g1 := by kernel_rfl
  g3 := by kernel_rfl
  g4 := by kernel_rfl }
end Go.Proofs
namespace Go.Proofs.YthebfmlfgfmlnaaGreatDoor
set_option linter.unusedSimpArgs false
set_option linter.unusedVariables false
set_option maxRecDepth 100000
open Go.RowKit
theorem c_Split1 (s : ByteArray) (c : UInt8) (w : World) (hs : s.size < 4294967281) : Calls Tryz.prog 47 #[.string s, .string (b1 c)] w fun e w' =>
    e = .returned (.slice (some ⟨w.heap.size, 0, none⟩) (Lib.countB s (b1 c) + 1) (Lib.countB s (b1 c) + 1)) ∧ w' = w.alloc (.cells ((Lib.splitB (b1 c) 0 (Lib.countB s (b1 c)) s).map Value.string).toArray strT) :=
  Any.strings_Split_one Tryz.lays146 (by kernel_rfl) s c w hs
section
variable {xs : List Fq} {ys : Rho} {n m k i : Nat} {x : Fq} {s : ByteArray} {c : UInt8} {l : Leaf} {e : Int} {ss : List ByteArray}
theorem I_Split (hn : (frs xs ++ ys)[n]? = some (.val (.string s))) (hm : (frs xs ++ ys)[m]? = some (.strs ss)) (hl : Lib.splitB (b1 c) 0 (Lib.countB s (b1 c)) s = ss) (hs : s.size < 4294967281) : OkI xs ys ⟨47, [.one (.ref n), .one (.s (b1 c))], .v (.one (.ref m))⟩ :=
  ⟨enters Tryz.func47 rfl rfl, fun B w vs hB h => by
    match vs, h with
    | [va, vb], h =>
      have e1 := leaf_val (B := B) hn h.1
      have e2 : vb = .string (b1 c) := h.2.1
      subst e1; subst e2
      refine (c_Split1 s c w hs).mono ?_
      rintro e w' ⟨rfl, rfl⟩
      have hlen := Lib.splitB_all (b1 c) (Nat.le_refl 1) 0 _ s rfl
      rw [hl] at hlen
      rw [hl]
      refine ⟨_, rfl, ⟨_, hm, .inr ⟨w.heap.size, 0, ss.length, _, by rw [hlen], Nat.le_refl _, heap_alloc_new w _, fun j q hj => ?_⟩, fun g ⟨o', n', c', e'⟩ x hx => ?_⟩, bel1 w _⟩
      · rw [List.getElem?_map] at hj
        obtain ⟨z, hz, e1⟩ := Option.map_eq_some_iff.1 hj
        subst e1
        exact ⟨.string z, by simp [hz], ⟨rfl, flat_str⟩, fun _ h => h⟩
      · injection e' with e1; injection e1 with e1; injection e1 with e1 _ _; subst e1
        have := hB x _ hx; omega⟩
theorem instP {f : FuncId} (hen : Ent' f) (hc : ∀ w, Calls Tryz.prog f #[.string s] w (fun a w' => RetQE w x e a w')) (hn : (frs xs ++ ys)[n]? = some (.val (.string s))) (hk : xs[k]? = some x) (hl : ∀ B w, l.holds (frs xs ++ ys) B w (.int .i64 e)) : OkI xs ys ⟨f, [.one (.ref n)], .tup [fr k, .one l]⟩ :=
  ⟨hen, fun B w vs hB h => by
    match vs, h with
    | [va], h =>
      have e1 := leaf_val (B := B) hn h.1
      subst e1
      refine (hc w).mono ?_
      rintro a w' ⟨v, rfl, h1, h2⟩
      exact ⟨_, rfl, ⟨[v, .int .i64 e], rfl, (fr_isQ hk).2 h1, hl B w', trivial⟩, h2⟩⟩
theorem I_fParse (hn : (frs xs ++ ys)[n]? = some (.val (.string s))) (hk : xs[k]? = some x) (hl : ∀ B w, l.holds (frs xs ++ ys) B w (.int .i64 e)) (h : FP s x e) (hs : s.size ≤ 4294967280) : OkI xs ys ⟨48, [.one (.ref n)], .tup [fr k, .one l]⟩ :=
  instP (enters Tryz.func48 rfl rfl) (fun w => q_fParse s x e w h hs) hn hk hl
theorem I_fFormat (hi : xs[i]? = some x) (hl : ∀ B w, l.holds (frs xs ++ ys) B w (.string x.fmt)) (ox : x.ok 1000000000) : OkI xs ys ⟨45, [fr i], .v (.one l)⟩ :=
  inst1V (enters Tryz.func45 rfl rfl) (fun va w h1 => q_fFormat va x w h1 ox) hi hl
end
end Go.Proofs.YthebfmlfgfmlnaaGreatDoor
namespace Go.Proofs
open Go.Shelf
def Tryz.laysJoin_ren : Go.Shelf.Ren := ⟨fun | 156 => 46 | 165 => 91 | 166 => 92 | 169 => 93 | 240 => 141 | 241 => 142 | 276 => 165 | 277 => 166 | n => n, fun | 31 => 64 | 9 => 9 | 3 => 3 | 4 => 4 | 0 => 0 | 20 => 20 | 72 => 104 | 76 => 108 | 70 => 101 | 37 => 102 | 75 => 107 | 127 => 142 | 164 => 156 | 5 => 5 | 80 => 110 | n => n, fun | n => n⟩
theorem Tryz.laysJoin : Go.Proofs.Lays.n156 Tryz.prog Tryz.laysJoin_ren := {
  mixed := by kernel_rfl
  f156 := Tryz.func46.trans (congrArg some (by kernel_rfl))
  f165 := Tryz.func91.trans (congrArg some (by kernel_rfl))
  f166 := Tryz.func92.trans (congrArg some (by kernel_rfl))
  f169 := Tryz.func93.trans (congrArg some (by kernel_rfl))
  f240 := Tryz.func141.trans (congrArg some (by kernel_rfl))
  f241 := Tryz.func142.trans (congrArg some (by kernel_rfl))
  f276 := Tryz.func165.trans (congrArg some (by kernel_rfl))
  f277 := Tryz.func166.trans (congrArg some (by kernel_rfl))
  t0 := Tryz.underlying0
  a0 := Tryz.isAgg0
  z0 := Tryz.sizeOf0
  v0 := Tryz.zeroValue0
  t3 := Tryz.underlying3
  a3 := Tryz.isAgg3
  z3 := Tryz.sizeOf3
  v3 := Tryz.zeroValue3
  t4 := Tryz.underlying4
  a4 := Tryz.isAgg4
  z4 := Tryz.sizeOf4
  v4 := Tryz.zeroValue4
  t9 := Tryz.underlying9
  a9 := Tryz.isAgg9
  z9 := Tryz.sizeOf9
  v9 := Tryz.zeroValue9
  t20 := Tryz.underlying20
  a20 := Tryz.isAgg20
  z20 := Tryz.sizeOf20
  v20 := Tryz.zeroValue20
  t31 := Tryz.underlying64
  a31 := Tryz.isAgg64
  z31 := Tryz.sizeOf64
  v31 := Tryz.zeroValue64
  t37 := Tryz.underlying102
  a37 := Tryz.isAgg102
  z37 := Tryz.sizeOf102
  v37 := Tryz.zeroValue102
  t70 := Tryz.underlying101
  a70 := Tryz.isAgg101
  z70 := Tryz.sizeOf101
  v70 := Tryz.zeroValue101
  t72 := Tryz.underlying104
  a72 := Tryz.isAgg104
  z72 := Tryz.sizeOf104
  v72 := Tryz.zeroValue104
  t75 := Tryz.underlying107
  a75 := Tryz.isAgg107
  z75 := Tryz.sizeOf107
  v75 := Tryz.zeroValue107
  t76 := Tryz.underlying108
  a76 := Tryz.isAgg108
  z76 := Tryz.sizeOf108
  v76 := Tryz.zeroValue108
  t127 := Tryz.underlying142
  a127 := Tryz.isAgg142
  z127 := Tryz.sizeOf142
  v127 := Tryz.zeroValue142
  t164 := Tryz.underlying156
  a164 := Tryz.isAgg156
  z164 := Tryz.sizeOf156
  v164 := Tryz.zeroValue156 }
theorem Tryz.joinX : Builder.Extra Tryz.prog Tryz.laysJoin_ren where
  sizeBuilder := by kernel_rfl
  liesBuilder := by kernel_rfl
  t5 := Tryz.underlying5
  a5 := Tryz.isAgg5
  z5 := Tryz.sizeOf5
  v5 := Tryz.zeroValue5
  infoByte := by kernel_rfl
  cellsByte := by kernel_rfl
  sizeByte := by kernel_rfl
  neB5 := by decide
end Go.Proofs
