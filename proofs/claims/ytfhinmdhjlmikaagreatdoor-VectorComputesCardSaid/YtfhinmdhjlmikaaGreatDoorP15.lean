/- The plain law of fractions: what they stand for (rational numbers), and the laws of a field, of the order, of Lerp and of Floor. The plain law of vectors of fractions. The plain law of rotations, in rational numbers: quaternions up to a factor, and how they turn vectors. The plain law of rotations, in fractions. The plain law of rotations: images, ways, from one vector to another. How large the parts of vectors and rotations become. Arms, facts about the examples, Same. Rows of fractions in memory: vectors, quaternions, arrays of fractions. An executor: fractions and rows of fractions. An executor: what the functions of package fraction and of the reference give. Vectors, by the executor. Rotations, by the executor. Rows of fractions as they come in. -/
import Derived.Test.YtfhinmdhjlmikaaGreatDoorP14
namespace Go.Proofs.YtfhinmdhjlmikaaGreatDoor
set_option linter.unusedSimpArgs false
set_option linter.unusedVariables false
set_option maxRecDepth 100000
open Go Go.Proofs
/-- The number that a fraction stands for. -/
def Fq.sg (s : Bool) (m : Nat) : Int := if s then -(m : Int) else m
def Fq.v (x : Fq) : Rat := mkRat (Fq.sg x.s x.p) x.q
theorem low_v {s : Bool} {m n : Nat} (h : n ≠ 0) : (Fq.low s m n).v = mkRat (Fq.sg s m) n := by
  unfold Fq.v Fq.low
  simp only
  have hg : 0 < Nat.gcd m n := Nat.gcd_pos_of_pos_right _ (Nat.pos_of_ne_zero h)
  have h1 : Nat.gcd m n * lowP m n = m := Nat.mul_div_cancel' (Nat.gcd_dvd_left _ _)
  have h2 : Nat.gcd m n * lowQ m n = n := Nat.mul_div_cancel' (Nat.gcd_dvd_right _ _)
  have h3 : lowQ m n ≠ 0 := by intro h3; rw [h3, Nat.mul_zero] at h2; exact h h2.symm
  rw [Rat.mkRat_eq_iff h3 h]
  have hs : Fq.sg (lowS s m) (lowP m n) = Fq.sg s (lowP m n) := by
    unfold lowS Fq.sg
    by_cases hm : m = 0
    · subst hm; simp [lowP]
    · simp [hm]
  rw [hs]
  generalize hP : lowP m n = P at *
  generalize hQ : lowQ m n = R at *
  generalize Nat.gcd m n = g at *
  subst h1; subst h2
  unfold Fq.sg
  cases s <;> simp only [Bool.false_eq_true, if_true, if_false] <;> grind
theorem low_valid {s : Bool} {m n : Nat} (h : n ≠ 0) : (Fq.low s m n).valid = true := by
  unfold Fq.valid
  have hg : 0 < Nat.gcd m n := Nat.gcd_pos_of_pos_right _ (Nat.pos_of_ne_zero h)
  have h1 : Nat.gcd m n * lowP m n = m := Nat.mul_div_cancel' (Nat.gcd_dvd_left _ _)
  have h2 : Nat.gcd m n * lowQ m n = n := Nat.mul_div_cancel' (Nat.gcd_dvd_right _ _)
  refine decide_eq_true ⟨?_, ?_, ?_⟩
  · show lowQ m n ≠ 0
    intro h3; rw [h3, Nat.mul_zero] at h2; exact h h2.symm
  · show ¬(lowS s m = true ∧ lowP m n = 0)
    rintro ⟨h3, h4⟩
    rw [h4, Nat.mul_zero] at h1
    rw [← h1] at h3; simp [lowS] at h3
  · exact Nat.coprime_div_gcd_div_gcd hg
theorem Fq.valid.n {x : Fq} (h : x.valid = true) : x.q ≠ 0 := (of_decide_eq_true h).1
theorem Fq.valid.s {x : Fq} (h : x.valid = true) : ¬(x.s = true ∧ x.p = 0) := (of_decide_eq_true h).2.1
theorem Fq.valid.g {x : Fq} (h : x.valid = true) : Nat.gcd x.p x.q = 1 := (of_decide_eq_true h).2.2
theorem sg_abs (s : Bool) (m : Nat) : (Fq.sg s m).natAbs = m := by unfold Fq.sg; cases s <;> simp
theorem sg_neg {s : Bool} {m : Nat} (h : ¬(s = true ∧ m = 0)) : decide (Fq.sg s m < 0) = s := by
  unfold Fq.sg
  cases s
  · simp
  · simp at h ⊢; omega
theorem v_num {x : Fq} (h : x.valid = true) : x.v.num = Fq.sg x.s x.p ∧ x.v.den = x.q := by
  have hn := Fq.valid.n h
  have hc : (Fq.sg x.s x.p).natAbs.Coprime x.q := by rw [sg_abs]; exact Fq.valid.g h
  have e : x.v = Rat.mk' (Fq.sg x.s x.p) x.q hn hc := (Rat.mk_eq_mkRat _ _ hn hc).symm
  rw [e]; exact ⟨rfl, rfl⟩
/-- Valid fractions of one value are one. -/
theorem v_inj {x y : Fq} (hx : x.valid = true) (hy : y.valid = true) (h : x.v = y.v) : x = y := by
  obtain ⟨a1, a2⟩ := v_num hx
  obtain ⟨b1, b2⟩ := v_num hy
  rw [h] at a1 a2
  have e1 : Fq.sg x.s x.p = Fq.sg y.s y.p := a1.symm.trans b1
  have ep : x.p = y.p := by rw [← sg_abs x.s x.p, e1, sg_abs]
  have es : x.s = y.s := by rw [← sg_neg (Fq.valid.s hx), e1, sg_neg (Fq.valid.s hy)]
  have eq : x.q = y.q := a2.symm.trans b2
  cases x; cases y; simp only at *; subst ep; subst es; subst eq; rfl
theorem sg_add (s s' : Bool) (X Y : Nat) : Fq.sg (addG s s' X Y) (addM s s' X Y) = Fq.sg s X + Fq.sg s' Y := by
  unfold Fq.sg addG addM
  by_cases h : s = s'
  · subst h; simp only [if_true]; cases s <;> simp <;> omega
  · simp only [h, if_false]
    by_cases hl : Y ≤ X
    · simp only [hl, if_true]; cases s <;> cases s' <;> simp at h ⊢ <;> omega
    · simp only [hl, if_false]; cases s <;> cases s' <;> simp at h ⊢ <;> omega
theorem sg_mulN (s : Bool) (X Y : Nat) : Fq.sg s (X * Y) = Fq.sg s X * (Y : Int) := by
  unfold Fq.sg
  cases s <;> simp <;> grind
theorem v_add {x y : Fq} (hx : x.q ≠ 0) (hy : y.q ≠ 0) : (x.add y).v = x.v + y.v := by
  unfold Fq.add
  rw [low_v (Nat.mul_ne_zero hx hy), sg_add, sg_mulN, sg_mulN]
  unfold Fq.v
  rw [Rat.mkRat_add_mkRat _ _ hx hy]
theorem v_neg {x : Fq} : x.neg.v = -x.v := by
  unfold Fq.neg Fq.v
  simp only
  rw [Rat.neg_mkRat]
  congr 1
  unfold Fq.sg lowS
  by_cases h : x.p = 0
  · rw [h]; simp
  · simp only [h, decide_false, Bool.not_false, Bool.and_true]; cases x.s <;> simp
theorem neg_valid {x : Fq} (h : x.valid = true) : x.neg.valid = true := by
  have h1 := Fq.valid.n h
  have h2 := Fq.valid.g h
  refine decide_eq_true ⟨h1, ?_, h2⟩
  show ¬(lowS (!x.s) x.p = true ∧ x.p = 0)
  rintro ⟨h1, h2⟩; rw [h2] at h1; simp [lowS] at h1
theorem v_sub {x y : Fq} (hx : x.q ≠ 0) (hy : y.q ≠ 0) : (x.sub y).v = x.v - y.v := by
  unfold Fq.sub
  rw [v_add hx (show y.neg.q ≠ 0 from hy), v_neg, Rat.sub_eq_add_neg]
theorem v_eq0 {x : Fq} (hx : x.q ≠ 0) : x.v = 0 ↔ x.p = 0 := by
  unfold Fq.v
  rw [Rat.mkRat_eq_zero hx]
  have := sg_abs x.s x.p
  constructor <;> intro h
  · rw [h] at this; exact this.symm
  · unfold Fq.sg; rw [h]; simp
theorem ofInt_valid (n : Int) : (Fq.ofInt n).valid = true := by
  refine decide_eq_true ⟨Nat.one_ne_zero, ?_, Nat.gcd_one_right _⟩
  show ¬(decide (n < 0) = true ∧ n.natAbs = 0)
  rintro ⟨h1, h2⟩; have := of_decide_eq_true h1; omega
theorem sgn_cases {x : Fq} (hx : x.valid = true) : (x.v < 0 ∧ x.sgn = -1) ∨ (x.v = 0 ∧ x.sgn = 0) ∨ (0 < x.v ∧ x.sgn = 1) := by
  have hn := (v_num hx).1
  have h0 := v_eq0 (Fq.valid.n hx)
  have hs := Fq.valid.s hx
  by_cases hp : x.p = 0
  · exact Or.inr (Or.inl ⟨h0.2 hp, by unfold Fq.sgn; rw [if_pos hp]⟩)
  · have hne : x.v ≠ 0 := fun h => hp (h0.1 h)
    rcases Bool.eq_false_or_eq_true x.s with h | h
    · refine Or.inl ⟨?_, by unfold Fq.sgn; rw [if_neg hp, if_pos h]⟩
      have h1 : ¬ (0 ≤ x.v) := by rw [← Rat.num_nonneg, hn, h]; unfold Fq.sg; simp; omega
      exact Rat.not_le.1 h1
    · refine Or.inr (Or.inr ⟨?_, by unfold Fq.sgn; rw [if_neg hp, h]; rfl⟩)
      have h1 : 0 ≤ x.v := by rw [← Rat.num_nonneg, hn, h]; unfold Fq.sg; simp
      grind
theorem add_valid {x y : Fq} (hx : x.valid = true) (hy : y.valid = true) : (x.add y).valid = true := low_valid (Nat.mul_ne_zero (Fq.valid.n hx) (Fq.valid.n hy))
theorem mul_valid {x y : Fq} (hx : x.valid = true) (hy : y.valid = true) : (x.mul y).valid = true := low_valid (Nat.mul_ne_zero (Fq.valid.n hx) (Fq.valid.n hy))
theorem sub_valid {x y : Fq} (hx : x.valid = true) (hy : y.valid = true) : (x.sub y).valid = true := add_valid hx (neg_valid hy)
theorem div_valid {x y : Fq} (hx : x.valid = true) (h0 : y.p ≠ 0) : (x.div y).valid = true := low_valid (Nat.mul_ne_zero (Fq.valid.n hx) h0)
theorem v_s {x y : Fq} (hx : x.valid = true) (hy : y.valid = true) : (x.sub y).v = x.v - y.v := v_sub (Fq.valid.n hx) (Fq.valid.n hy)
theorem cmp_cases {x y : Fq} (hx : x.valid = true) (hy : y.valid = true) : (x.v < y.v ∧ x.cmp y = -1) ∨ (x.v = y.v ∧ x.cmp y = 0) ∨ (y.v < x.v ∧ x.cmp y = 1) := by
  unfold Fq.cmp
  rcases sgn_cases (sub_valid hx hy) with ⟨h1, h2⟩ | ⟨h1, h2⟩ | ⟨h1, h2⟩ <;> rw [v_s hx hy] at h1
  · exact Or.inl ⟨by grind, h2⟩
  · exact Or.inr (Or.inl ⟨by grind, h2⟩)
  · exact Or.inr (Or.inr ⟨by grind, h2⟩)
section
variable {a b c t : Fq} (ha : a.valid = true) (hb : b.valid = true) (hc : c.valid = true) (ht : t.valid = true)
include ha hb
include hc
end
section
variable {a b t : Fq} (ha : a.valid = true) (hb : b.valid = true) (ht : t.valid = true)
include ha
include hb
theorem o_zero : a.cmp b = 0 ↔ a = b := by
  constructor
  · intro h; rcases cmp_cases ha hb with ⟨p1, p2⟩ | ⟨p1, p2⟩ | ⟨p1, p2⟩ <;> first | omega | exact v_inj ha hb p1
  · rintro rfl; rcases cmp_cases ha hb with ⟨p1, p2⟩ | ⟨p1, p2⟩ | ⟨p1, p2⟩ <;> first | exact p2 | grind
include ht
end
end Go.Proofs.YtfhinmdhjlmikaaGreatDoor
namespace Go.Proofs.YtfhinmdhjlmikaaGreatDoor
set_option linter.unusedSimpArgs false
set_option linter.unusedVariables false
set_option maxRecDepth 100000
open Go.RowKit
/-- A vector of fractions. -/
structure Vq where
  x : Fq
  y : Fq
  z : Fq
def Vq.add (a b : Vq) : Vq := ⟨a.x.add b.x, a.y.add b.y, a.z.add b.z⟩
def Vq.sub (a b : Vq) : Vq := ⟨a.x.sub b.x, a.y.sub b.y, a.z.sub b.z⟩
def Vq.scale (a : Vq) (k : Fq) : Vq := ⟨a.x.mul k, a.y.mul k, a.z.mul k⟩
def Vq.dot (a b : Vq) : Fq := (a.x.mul b.x).add ((a.y.mul b.y).add (a.z.mul b.z))
def Vq.cross (a b : Vq) : Vq := ⟨(a.y.mul b.z).sub (a.z.mul b.y), (a.z.mul b.x).sub (a.x.mul b.z), (a.x.mul b.y).sub (a.y.mul b.x)⟩
def Vq.lerp (a b : Vq) (t : Fq) : Vq := a.add ((b.sub a).scale t)
def Vq.of (x y z : Int) : Vq := ⟨.ofInt x, .ofInt y, .ofInt z⟩
structure Vq.good (a : Vq) : Prop where
  x : a.x.valid = true
  y : a.y.valid = true
  z : a.z.valid = true
section
variable {a b c : Vq} {k t : Fq}
theorem Vq.good.add (ha : a.good) (hb : b.good) : (a.add b).good := ⟨add_valid ha.x hb.x, add_valid ha.y hb.y, add_valid ha.z hb.z⟩
theorem Vq.good.sub (ha : a.good) (hb : b.good) : (a.sub b).good := ⟨sub_valid ha.x hb.x, sub_valid ha.y hb.y, sub_valid ha.z hb.z⟩
theorem Vq.good.scale (ha : a.good) (hk : k.valid = true) : (a.scale k).good := ⟨mul_valid ha.x hk, mul_valid ha.y hk, mul_valid ha.z hk⟩
theorem Vq.good.cross (ha : a.good) (hb : b.good) : (a.cross b).good := ⟨sub_valid (mul_valid ha.y hb.z) (mul_valid ha.z hb.y), sub_valid (mul_valid ha.z hb.x) (mul_valid ha.x hb.z), sub_valid (mul_valid ha.x hb.y) (mul_valid ha.y hb.x)⟩
theorem Vq.good.lerp (ha : a.good) (hb : b.good) (ht : t.valid = true) : (a.lerp b t).good := ha.add ((hb.sub ha).scale ht)
theorem Vq.good.of (x y z : Int) : (Vq.of x y z).good := ⟨ofInt_valid x, ofInt_valid y, ofInt_valid z⟩
theorem Vq.inj (ha : a.good) (hb : b.good) (hx : a.x.v = b.x.v) (hy : a.y.v = b.y.v) (hz : a.z.v = b.z.v) : a = b := by
  have e1 := v_inj ha.x hb.x hx
  have e2 := v_inj ha.y hb.y hy
  have e3 := v_inj ha.z hb.z hz
  cases a; cases b; simp only at e1 e2 e3; subst e1; subst e2; subst e3; rfl
-- a vector space
-- products
-- on the way
end
end Go.Proofs.YtfhinmdhjlmikaaGreatDoor
namespace Go.Proofs.YtfhinmdhjlmikaaGreatDoor
set_option linter.unusedSimpArgs false
set_option linter.unusedVariables false
set_option maxRecDepth 100000
open Go.RowKit
/-- A quaternion, a vector of rational numbers. -/
@[ext] structure QR where
  w : Rat
  x : Rat
  y : Rat
  z : Rat
@[ext] structure VR where
  x : Rat
  y : Rat
  z : Rat
def QR.nrm (a : QR) : Rat := a.w * a.w + (a.x * a.x + (a.y * a.y + a.z * a.z))
def QR.mul (p q : QR) : QR := ⟨p.w * q.w - (p.x * q.x + (p.y * q.y + p.z * q.z)), q.x * p.w + p.x * q.w + (p.y * q.z - p.z * q.y), q.y * p.w + p.y * q.w + (p.z * q.x - p.x * q.z), q.z * p.w + p.z * q.w + (p.x * q.y - p.y * q.x)⟩
def QR.smul (k : Rat) (a : QR) : QR := ⟨k * a.w, k * a.x, k * a.y, k * a.z⟩
def QR.one : QR := ⟨1, 0, 0, 0⟩
/-- Equal up to a factor. -/
def Sim (a b : QR) : Prop := ∃ k : Rat, k ≠ 0 ∧ b = QR.smul k a
def VR.smul (k : Rat) (v : VR) : VR := ⟨k * v.x, k * v.y, k * v.z⟩
def VR.dot (a b : VR) : Rat := a.x * b.x + (a.y * b.y + a.z * b.z)
theorem nrm_smul (k : Rat) (p : QR) : (QR.smul k p).nrm = k * k * p.nrm := by unfold QR.nrm QR.smul; grind
theorem mul_ne {a b : Rat} (ha : a ≠ 0) (hb : b ≠ 0) : a * b ≠ 0 := fun h => by rcases Rat.mul_eq_zero.1 h with h | h; exact ha h; exact hb h
theorem Sim.refl (a : QR) : Sim a a := ⟨1, by decide, by unfold QR.smul; ext <;> simp only <;> grind⟩
theorem Sim.symm {a b : QR} (h : Sim a b) : Sim b a := by
  obtain ⟨k, hk, rfl⟩ := h
  refine ⟨k⁻¹, fun h => by have h1 := Rat.inv_mul_cancel k hk; rw [h] at h1; grind, ?_⟩
  have := Rat.inv_mul_cancel k hk
  unfold QR.smul; ext <;> simp only <;> grind
theorem Sim.trans {a b c : QR} (h : Sim a b) (h2 : Sim b c) : Sim a c := by
  obtain ⟨k, hk, rfl⟩ := h
  obtain ⟨l, hl, rfl⟩ := h2
  exact ⟨l * k, mul_ne hl hk, by unfold QR.smul; ext <;> simp only <;> grind⟩
theorem Sim.mul {a a' b b' : QR} (h : Sim a a') (h2 : Sim b b') : Sim (a.mul b) (a'.mul b') := by
  obtain ⟨k, hk, rfl⟩ := h
  obtain ⟨l, hl, rfl⟩ := h2
  exact ⟨k * l, mul_ne hk hl, by unfold QR.smul QR.mul; ext <;> simp only <;> grind⟩
theorem Sim.nrm {a b : QR} (h : Sim a b) (ha : a.nrm ≠ 0) : b.nrm ≠ 0 := by
  obtain ⟨k, hk, rfl⟩ := h
  rw [nrm_smul]; exact mul_ne (mul_ne hk hk) ha
end Go.Proofs.YtfhinmdhjlmikaaGreatDoor
namespace Go.Proofs.YtfhinmdhjlmikaaGreatDoor
set_option linter.unusedSimpArgs false
set_option linter.unusedVariables false
set_option maxRecDepth 100000
open Go.RowKit
/-- A quaternion of fractions. -/
structure Qq where
  w : Fq
  x : Fq
  y : Fq
  z : Fq
def Qq.r (q : Qq) : QR := ⟨q.w.v, q.x.v, q.y.v, q.z.v⟩
def Qq.axis (q : Qq) : Vq := ⟨q.x, q.y, q.z⟩
def Vq.r (a : Vq) : VR := ⟨a.x.v, a.y.v, a.z.v⟩
structure Qq.comp (q : Qq) : Prop where
  w : q.w.valid = true
  x : q.x.valid = true
  y : q.y.valid = true
  z : q.z.valid = true
theorem Qq.comp.axis {q : Qq} (h : q.comp) : q.axis.good := ⟨h.x, h.y, h.z⟩
/-- The first component that is not zero. -/
def Qq.first (q : Qq) : Fq := if q.w.p ≠ 0 then q.w else if q.x.p ≠ 0 then q.x else if q.y.p ≠ 0 then q.y else q.z
def Qq.over (q : Qq) (n : Fq) : Qq := ⟨q.w.div n, q.x.div n, q.y.div n, q.z.div n⟩
def Qq.zero : Qq := ⟨.zero, .zero, .zero, .zero⟩
/-- What Make returns. -/
def Qq.canon (q : Qq) : Qq := if q.first.p = 0 then .zero else q.over q.first
structure Qq.good (q : Qq) : Prop where
  comp : q.comp
  one : q.first.v = 1
def Qq.id : Qq := ⟨.ofInt 1, .ofInt 0, .ofInt 0, .ofInt 0⟩
section
variable {p q : Qq}
theorem Qq.comp.first (h : q.comp) : q.first.valid = true := by
  unfold Qq.first
  split
  · exact h.w
  · split
    · exact h.x
    · split
      · exact h.y
      · exact h.z
theorem Qq.comp.over (h : q.comp) {n : Fq} (hn : n.p ≠ 0) : (q.over n).comp := ⟨div_valid h.w hn, div_valid h.x hn, div_valid h.y hn, div_valid h.z hn⟩
/-- The product before it is made canonical. -/
def Qq.hamV (p q : Qq) : Vq := ((q.axis.scale p.w).add (p.axis.scale q.w)).add (p.axis.cross q.axis)
def Qq.hamW (p q : Qq) : Fq := (p.w.mul q.w).sub (p.axis.dot q.axis)
def Qq.ham (p q : Qq) : Qq := ⟨p.hamW q, (p.hamV q).x, (p.hamV q).y, (p.hamV q).z⟩
def Qq.mul (p q : Qq) : Qq := (p.ham q).canon
def Qq.inv (q : Qq) : Qq := (Qq.mk q.w (q.axis.scale (.ofInt (-1))).x (q.axis.scale (.ofInt (-1))).y (q.axis.scale (.ofInt (-1))).z).canon
variable {a b c : Qq}
end
end Go.Proofs.YtfhinmdhjlmikaaGreatDoor
namespace Go.Proofs.YtfhinmdhjlmikaaGreatDoor
set_option linter.unusedSimpArgs false
set_option linter.unusedVariables false
set_option maxRecDepth 100000
open Go.RowKit
/-- The square of the length. -/
def Qq.nn (q : Qq) : Fq := (q.w.mul q.w).add (q.axis.dot q.axis)
section
variable {p q d : Qq} {v x y a b : Vq} {t : Fq}
-- rigid
-- on the way
/-- The rotation between, where the way is not half a turn. -/
def Qq.way (p d : Qq) (t : Fq) : Qq := p.mul (Qq.mk (.ofInt 1) (d.axis.scale t).x (d.axis.scale t).y (d.axis.scale t).z).canon
-- from one vector to another
def Vq.turn (a b : Vq) : Qq := (Qq.mk ((a.dot a).add (a.dot b)) (a.cross b).x (a.cross b).y (a.cross b).z).canon
end
end Go.Proofs.YtfhinmdhjlmikaaGreatDoor
namespace Go.Proofs.YtfhinmdhjlmikaaGreatDoor
set_option linter.unusedSimpArgs false
set_option linter.unusedVariables false
set_option maxRecDepth 100000
open Go.RowKit
structure Vq.ok (d : Nat) (a : Vq) : Prop where
  x : a.x.ok d
  y : a.y.ok d
  z : a.z.ok d
structure Qq.ok (d : Nat) (q : Qq) : Prop where
  w : q.w.ok d
  x : q.x.ok d
  y : q.y.ok d
  z : q.z.ok d
section
variable {a b : Vq} {k : Fq} {p q : Qq} {d e f : Nat}
theorem Vq.ok.mono (h : a.ok d) (hd : d ≤ e) : a.ok e := ⟨h.x.mono hd, h.y.mono hd, h.z.mono hd⟩
theorem Qq.ok.mono (h : q.ok d) (hd : d ≤ e) : q.ok e := ⟨h.w.mono hd, h.x.mono hd, h.y.mono hd, h.z.mono hd⟩
theorem Qq.ok.axis (h : q.ok d) : q.axis.ok d := ⟨h.x, h.y, h.z⟩
theorem Vq.ok.add (h : a.ok d) (k : b.ok e) : (a.add b).ok (2 * (d + e) + 1) := ⟨(h.x.add k.x).mono (by omega), (h.y.add k.y).mono (by omega), (h.z.add k.z).mono (by omega)⟩
theorem Vq.ok.sub (h : a.ok d) (k : b.ok e) : (a.sub b).ok (2 * (d + e) + 1) := ⟨(h.x.sub k.x).mono (by omega), (h.y.sub k.y).mono (by omega), (h.z.sub k.z).mono (by omega)⟩
theorem Vq.ok.scale (h : a.ok d) (hk : k.ok e) : (a.scale k).ok (d + e) := ⟨h.x.mul hk, h.y.mul hk, h.z.mul hk⟩
theorem Vq.ok.dot (h : a.ok d) (k : b.ok e) : (a.dot b).ok (10 * (d + e) + 3) := ((h.x.mul k.x).add ((h.y.mul k.y).add (h.z.mul k.z))).mono (by omega)
theorem Vq.ok.cross (h : a.ok d) (k : b.ok e) : (a.cross b).ok (4 * (d + e) + 1) := ⟨((h.y.mul k.z).sub (h.z.mul k.y)).mono (by omega), ((h.z.mul k.x).sub (h.x.mul k.z)).mono (by omega), ((h.x.mul k.y).sub (h.y.mul k.x)).mono (by omega)⟩
theorem Vq.ok.lerp (h : a.ok d) (k' : b.ok e) (hk : k.ok f) : (a.lerp b k).ok (2 * (d + (2 * (e + d) + 1 + f)) + 1) := h.add ((k'.sub h).scale hk)
theorem Qq.ok.first (h : q.ok d) : q.first.ok d := by
  unfold Qq.first
  split
  · exact h.w
  · split
    · exact h.x
    · split
      · exact h.y
      · exact h.z
theorem Qq.ok.over (h : q.ok d) {n : Fq} (hn : n.ok e) (h0 : n.p ≠ 0) : (q.over n).ok (d + e) := ⟨h.w.div hn h0, h.x.div hn h0, h.y.div hn h0, h.z.div hn h0⟩
theorem Qq.ok.canon (h : q.ok d) (h0 : q.first.p ≠ 0) : q.canon.ok (d + d) := by unfold Qq.canon; rw [if_neg h0]; exact h.over h.first h0
theorem Qq.ok.hamW (h : p.ok d) (k : q.ok e) : (p.hamW q).ok (22 * (d + e) + 7) := ((h.w.mul k.w).sub (h.axis.dot k.axis)).mono (by omega)
theorem Qq.ok.hamV (h : p.ok d) (k : q.ok e) : (p.hamV q).ok (16 * (d + e) + 5) := (((k.axis.scale h.w).add (h.axis.scale k.w)).add (h.axis.cross k.axis)).mono (by omega)
theorem Qq.ok.ham (h : p.ok d) (k : q.ok e) : (p.ham q).ok (22 * (d + e) + 7) := ⟨h.hamW k, (h.hamV k).x.mono (by omega), (h.hamV k).y.mono (by omega), (h.hamV k).z.mono (by omega)⟩
theorem Qq.ok.mul (h : p.ok d) (k : q.ok e) (h0 : (p.ham q).first.p ≠ 0) : (p.mul q).ok (44 * (d + e) + 14) := ((h.ham k).canon h0).mono (by omega)
end
end Go.Proofs.YtfhinmdhjlmikaaGreatDoor
namespace Go.Proofs.YtfhinmdhjlmikaaGreatDoor
set_option linter.unusedSimpArgs false
set_option linter.unusedVariables false
set_option maxRecDepth 100000
open Go.RowKit
/-- Agreement in all fields. -/
def Fq.same (x y : Fq) : Bool := x.s == y.s && (decide (x.p = y.p) && decide (x.q = y.q))
theorem Fq.same_iff {x y : Fq} : x.same y = true ↔ x = y := by
  obtain ⟨a, b, c⟩ := x; obtain ⟨a', b', c'⟩ := y
  simp [Fq.same]
/-- A slice of length L. -/
def Sp.sl (L : Nat) : Sp := ⟨fun _ v => ∃ a c, v = .slice a L c, fun _ _ _ h _ => h⟩
section
variable {Q : Exit → Act → World → Prop} {o : Oper} {a : Act} {w : World} {x y : Operand} {g L p N q k : Nat} {s : Bool}
end
/-- Which fractions the laws look at. -/
def FitP (s : Bool) (L p N q : Nat) : Prop := L ≤ 12 ∧ N ≤ 12 ∧ nl p = L ∧ nl q = N ∧ (Fq.mk s p q).valid = true
theorem FitP.ok {s : Bool} {L p N q : Nat} (h : FitP s L p N q) : (Fq.mk s p q).ok 12 := ⟨by show nl p ≤ 12; have := h.1; have := h.2.2.1; omega, by show nl q ≤ 12; have := h.2.1; have := h.2.2.2.1; omega, (of_decide_eq_true h.2.2.2.2).1⟩
-- constants of the examples
def SameT0 (w : World) (xs : Bool) (ys : Bool) (xp : Nat) (xq : Nat) (yp : Nat) (yq : Nat) : List (Nat × Tmp × Sp) :=
   [(0, 5, .val (Value.pointer (some ⟨w.heap.size, 0, none⟩))),
    (1, 6, .val (Value.bool xs)),
    (2, 7, .val (Value.pointer (some ⟨w.heap.size + 1, 0, none⟩))),
    (3, 8, .val (Value.bool ys)),
    (4, 9, .val (Value.bool true)),
    (5, 10, .val (Value.bool true)),
    (6, 11, .val (Value.pointer (some ⟨w.heap.size, 1, none⟩))),
    (7, 12, .nat (xp)),
    (8, 13, .val (Value.pointer (some ⟨w.heap.size + 1, 1, none⟩))),
    (9, 14, .nat (yp)),
    (10, 15, .val (Value.bool true)),
    (11, 16, .val (Value.bool true)),
    (12, 17, .val (Value.bool true)),
    (13, 18, .val (Value.pointer (some ⟨w.heap.size, 2, none⟩))),
    (14, 19, .nat (xq)),
    (15, 20, .val (Value.pointer (some ⟨w.heap.size + 1, 2, none⟩))),
    (16, 21, .nat (yq)),
    (17, 22, .val (Value.bool true)),
    (18, 23, .val (Value.bool true)),
    (19, 4, .val (Value.bool true))]
def SameT1 (w : World) (xs : Bool) (ys : Bool) (xp : Nat) (xq : Nat) (yp : Nat) (yq : Nat) : List (Nat × Tmp × Sp) :=
   [(0, 5, .val (Value.pointer (some ⟨w.heap.size, 0, none⟩))),
    (1, 6, .val (Value.bool xs)),
    (2, 7, .val (Value.pointer (some ⟨w.heap.size + 1, 0, none⟩))),
    (3, 8, .val (Value.bool ys)),
    (4, 9, .val (Value.bool true)),
    (5, 10, .val (Value.bool true)),
    (6, 11, .val (Value.pointer (some ⟨w.heap.size, 1, none⟩))),
    (7, 12, .nat (xp)),
    (8, 13, .val (Value.pointer (some ⟨w.heap.size + 1, 1, none⟩))),
    (9, 14, .nat (yp)),
    (10, 15, .val (Value.bool true)),
    (11, 16, .val (Value.bool true)),
    (12, 17, .val (Value.bool true)),
    (13, 18, .val (Value.pointer (some ⟨w.heap.size, 2, none⟩))),
    (14, 19, .nat (xq)),
    (15, 20, .val (Value.pointer (some ⟨w.heap.size + 1, 2, none⟩))),
    (16, 21, .nat (yq)),
    (17, 22, .val (Value.bool false)),
    (18, 23, .val (Value.bool false)),
    (19, 4, .val (Value.bool false))]
def SameT2 (w : World) (xs : Bool) (ys : Bool) (xp : Nat) (yp : Nat) : List (Nat × Tmp × Sp) :=
   [(0, 5, .val (Value.pointer (some ⟨w.heap.size, 0, none⟩))),
    (1, 6, .val (Value.bool xs)),
    (2, 7, .val (Value.pointer (some ⟨w.heap.size + 1, 0, none⟩))),
    (3, 8, .val (Value.bool ys)),
    (4, 9, .val (Value.bool true)),
    (5, 10, .val (Value.bool true)),
    (6, 11, .val (Value.pointer (some ⟨w.heap.size, 1, none⟩))),
    (7, 12, .nat (xp)),
    (8, 13, .val (Value.pointer (some ⟨w.heap.size + 1, 1, none⟩))),
    (9, 14, .nat (yp)),
    (10, 15, .val (Value.bool false)),
    (11, 16, .val (Value.bool false)),
    (12, 17, .val (Value.bool false)),
    (13, 18, .val undef),
    (14, 19, .val undef),
    (15, 20, .val undef),
    (16, 21, .val undef),
    (17, 22, .val undef),
    (18, 23, .val (Value.bool false)),
    (19, 4, .val (Value.bool false))]
def SameT3 (w : World) (xs : Bool) (ys : Bool) : List (Nat × Tmp × Sp) :=
   [(0, 5, .val (Value.pointer (some ⟨w.heap.size, 0, none⟩))),
    (1, 6, .val (Value.bool xs)),
    (2, 7, .val (Value.pointer (some ⟨w.heap.size + 1, 0, none⟩))),
    (3, 8, .val (Value.bool ys)),
    (4, 9, .val (Value.bool false)),
    (5, 10, .val (Value.bool false)),
    (6, 11, .val undef),
    (7, 12, .val undef),
    (8, 13, .val undef),
    (9, 14, .val undef),
    (10, 15, .val undef),
    (11, 16, .val (Value.bool false)),
    (12, 17, .val (Value.bool false)),
    (13, 18, .val undef),
    (14, 19, .val undef),
    (15, 20, .val undef),
    (16, 21, .val undef),
    (17, 22, .val undef),
    (18, 23, .val (Value.bool false)),
    (19, 4, .val (Value.bool false))]
set_option maxHeartbeats 4000000 in
theorem q_SameB (va vb : Value) (x y : Fq) (w : World) (ha : IsQ w va x) (hb : IsQ w vb y) (hp : nl x.p ≤ 1000000000000) (hq : nl x.q ≤ 1000000000000) (kp : nl y.p ≤ 1000000000000) (kq : nl y.q ≤ 1000000000000) :
    Calls Tryz.prog 14 #[va, vb] w fun e w' => RetV w (.bool (x.same y)) e w' := by
  obtain ⟨xs, xp, xq⟩ := x
  obtain ⟨ys, yp, yq⟩ := y
  have bxp : nl xp ≤ 1000000000000 := hp
  have bxq : nl xq ≤ 1000000000000 := hq
  have byp : nl yp ≤ 1000000000000 := kp
  have byq : nl yq ≤ 1000000000000 := kq
  by_cases h1 : (xs == ys) = true
  · have H1 : Hid (true = (xs == ys)) := Lib.hid h1.symm
    by_cases h2 : xp = yp
    · have H2 : Hid (decide (xp = yp) = true) := Lib.hid (decide_eq_true h2)
      by_cases h3 : xq = yq
      · have H3 : Hid (decide (xq = yq) = true) := Lib.hid (decide_eq_true h3)
        have hr : (Fq.mk xs xp xq).same (Fq.mk ys yp yq) = true := by unfold Fq.same; simp only; rw [h1, H2.out, H3.out]; rfl
        rw [hr]
        clear hr h1 h2 h3
        obtain ⟨a0, c0, b0, d0, rfl, m0, k0⟩ := boxF ha
        obtain ⟨a1, c1, b1, d1, rfl, m1, k1⟩ := boxF (hb.mono m0)
        rw [World.size_alloc ] at k1
        have n1 := m0.trans (m1.mono m0.size)
        clear ha hb
        go_enter Tryz.func14, Tryz.ntmps14
        go_upto_region 0 with (fail)
        go_cut [2, 3, 4] (fun s_2 s_3 s_4 wx => s_2 = Value.pointer (some ⟨w.heap.size, 0, none⟩) ∧ s_3 = Value.pointer (some ⟨w.heap.size + 1, 0, none⟩) ∧ s_4 = Value.bool false ∧ VarQ wx w.heap.size (Fq.mk xs xp xq) ∧ VarQ wx (w.heap.size + 1) (Fq.mk ys yp yq) ∧ Below w.heap.size w wx)
        case first =>
          go_wp2_with fail
          go_meet
          case rel => exact ⟨rfl, rfl, rfl, (k0.mono m1), k1, n1⟩
        case rest =>
        clear m0 k0 m1 k1 n1
        obtain ⟨rfl, rfl, rfl, V0, V1, hb1⟩ := hcut
        go_upto_region 1 with (fail)
        go_cut [4] (fun s_4 wx => s_4 = Value.bool true ∧ VarQ wx w.heap.size (Fq.mk xs xp xq) ∧ VarQ wx (w.heap.size + 1) (Fq.mk ys yp yq) ∧ Below w.heap.size w wx)
        case first =>
          refine wp_tabGF Tryz.f14 1 (SameT0 w xs ys xp xq yp yq) [] (fun _ => false) 14 0 (by kernel_rfl) (by kernel_rfl) (by kernel_rfl) (by kernel_rfl) (by kernel_rfl) (EachX.of_all (fun _ h => by cases h) _) ?_ ?_
          · refine ⟨fun _ _ F => gR rfl rfl (arm_fieldF rfl (F.k 2 (Value.pointer (some ⟨w.heap.size, 0, none⟩))) (run_field0 _)).b, ?_⟩
            refine ⟨fun _ _ F => gR rfl rfl (arm_loadS rfl (F.f 0 rfl) (V0.mono F.below)).b, ?_⟩
            refine ⟨fun _ _ F => gR rfl rfl (arm_fieldF rfl (F.k 3 (Value.pointer (some ⟨w.heap.size + 1, 0, none⟩))) (run_field0 _)).b, ?_⟩
            refine ⟨fun _ _ F => gR rfl rfl (arm_loadS rfl (F.f 2 rfl) (V1.mono F.below)).b, ?_⟩
            refine ⟨fun _ _ F => gR rfl rfl (arm_bin rfl (F.f 1 rfl) (F.f 3 rfl) (fun _ => rfl) (fun w => by rw [H1.out]; exact run_eqBB _ _ w)).b, ?_⟩
            refine ⟨fun _ _ F => gR rfl rfl (arm_move (.inl rfl) (F.f 4 rfl)).b, ?_⟩
            refine ⟨fun _ _ F => gG F rfl rfl rfl rfl (arm_fieldF rfl (F.k 2 (Value.pointer (some ⟨w.heap.size, 0, none⟩))) (run_field1 _)).b, ?_⟩
            refine ⟨fun _ _ F => gG F rfl rfl rfl rfl (arm_load1 rfl (F.f 6 rfl) (V0.mono F.below)).b, ?_⟩
            refine ⟨fun _ _ F => gG F rfl rfl rfl rfl (arm_fieldF rfl (F.k 3 (Value.pointer (some ⟨w.heap.size + 1, 0, none⟩))) (run_field1 _)).b, ?_⟩
            refine ⟨fun _ _ F => gG F rfl rfl rfl rfl (arm_load1 rfl (F.f 8 rfl) (V1.mono F.below)).b, ?_⟩
            refine ⟨fun _ _ F => gG F rfl rfl rfl rfl (arm_C2 rfl (enters Tryz.func36 rfl rfl) (F.f 7 rfl) (F.f 9 rfl) (fun va vb w h1 h2 => c_ref_Same va vb xp yp w h1 h2 bxp byp) (fun _ _ h => by have h' : RetV _ _ _ _ := h; rw [H2.out] at h'; exact ofV h')).b, ?_⟩
            refine ⟨fun _ _ F => gR rfl rfl (arm_pick rfl (F.f 5 rfl) (fun _ => (F.f 10 rfl)) (fun h => by cases h)).b, ?_⟩
            refine ⟨fun _ _ F => gR rfl rfl (arm_move (.inl rfl) (F.f 11 rfl)).b, ?_⟩
            refine ⟨fun _ _ F => gG F rfl rfl rfl rfl (arm_fieldF rfl (F.k 2 (Value.pointer (some ⟨w.heap.size, 0, none⟩))) (run_field2 _)).b, ?_⟩
            refine ⟨fun _ _ F => gG F rfl rfl rfl rfl (arm_load2 rfl (F.f 13 rfl) (V0.mono F.below)).b, ?_⟩
            refine ⟨fun _ _ F => gG F rfl rfl rfl rfl (arm_fieldF rfl (F.k 3 (Value.pointer (some ⟨w.heap.size + 1, 0, none⟩))) (run_field2 _)).b, ?_⟩
            refine ⟨fun _ _ F => gG F rfl rfl rfl rfl (arm_load2 rfl (F.f 15 rfl) (V1.mono F.below)).b, ?_⟩
            refine ⟨fun _ _ F => gG F rfl rfl rfl rfl (arm_C2 rfl (enters Tryz.func36 rfl rfl) (F.f 14 rfl) (F.f 16 rfl) (fun va vb w h1 h2 => c_ref_Same va vb xq yq w h1 h2 bxq byq) (fun _ _ h => by have h' : RetV _ _ _ _ := h; rw [H3.out] at h'; exact ofV h')).b, ?_⟩
            refine ⟨fun _ _ F => gR rfl rfl (arm_pick rfl (F.f 12 rfl) (fun _ => (F.f 17 rfl)) (fun h => by cases h)).b, ?_⟩
            refine ⟨fun _ _ F => gR rfl rfl (arm_move (.inr rfl) (F.f 18 rfl)).b, ?_⟩
            exact trivial
          intro E' hE gp wp bp G Gs
          obtain rfl : E' = [] := by simpa [subs] using hE
          have e_19 : gp 19 = Value.bool true := G 19 4 _ (by simp) rfl
          clear G Gs hE
          simp only [SameT0]
          simp only [qA, setD, qZ, qS, e_19]
          refine wpAny_done (by kernel_rfl) ?_ _
          go_wp2_with fail
          go_meet
          case rel => exact ⟨rfl, (V0.mono bp), (V1.mono bp), (hb1.trans (bp.mono hb1.size))⟩
        case rest =>
        clear V0 V1 hb1
        obtain ⟨rfl, V0, V1, hb1⟩ := hcut
        go_wp2
        go_ret
        exact ⟨rfl, hb1⟩
      · have H3 : Hid (decide (xq = yq) = false) := Lib.hid (decide_eq_false h3)
        have hr : (Fq.mk xs xp xq).same (Fq.mk ys yp yq) = false := by unfold Fq.same; simp only; rw [h1, H2.out, H3.out]; rfl
        rw [hr]
        clear hr h1 h2 h3
        obtain ⟨a0, c0, b0, d0, rfl, m0, k0⟩ := boxF ha
        obtain ⟨a1, c1, b1, d1, rfl, m1, k1⟩ := boxF (hb.mono m0)
        rw [World.size_alloc ] at k1
        have n1 := m0.trans (m1.mono m0.size)
        clear ha hb
        go_enter Tryz.func14, Tryz.ntmps14
        go_upto_region 0 with (fail)
        go_cut [2, 3, 4] (fun s_2 s_3 s_4 wx => s_2 = Value.pointer (some ⟨w.heap.size, 0, none⟩) ∧ s_3 = Value.pointer (some ⟨w.heap.size + 1, 0, none⟩) ∧ s_4 = Value.bool false ∧ VarQ wx w.heap.size (Fq.mk xs xp xq) ∧ VarQ wx (w.heap.size + 1) (Fq.mk ys yp yq) ∧ Below w.heap.size w wx)
        case first =>
          go_wp2_with fail
          go_meet
          case rel => exact ⟨rfl, rfl, rfl, (k0.mono m1), k1, n1⟩
        case rest =>
        clear m0 k0 m1 k1 n1
        obtain ⟨rfl, rfl, rfl, V0, V1, hb1⟩ := hcut
        go_upto_region 1 with (fail)
        go_cut [4] (fun s_4 wx => s_4 = Value.bool false ∧ VarQ wx w.heap.size (Fq.mk xs xp xq) ∧ VarQ wx (w.heap.size + 1) (Fq.mk ys yp yq) ∧ Below w.heap.size w wx)
        case first =>
          refine wp_tabGF Tryz.f14 1 (SameT1 w xs ys xp xq yp yq) [] (fun _ => false) 14 0 (by kernel_rfl) (by kernel_rfl) (by kernel_rfl) (by kernel_rfl) (by kernel_rfl) (EachX.of_all (fun _ h => by cases h) _) ?_ ?_
          · refine ⟨fun _ _ F => gR rfl rfl (arm_fieldF rfl (F.k 2 (Value.pointer (some ⟨w.heap.size, 0, none⟩))) (run_field0 _)).b, ?_⟩
            refine ⟨fun _ _ F => gR rfl rfl (arm_loadS rfl (F.f 0 rfl) (V0.mono F.below)).b, ?_⟩
            refine ⟨fun _ _ F => gR rfl rfl (arm_fieldF rfl (F.k 3 (Value.pointer (some ⟨w.heap.size + 1, 0, none⟩))) (run_field0 _)).b, ?_⟩
            refine ⟨fun _ _ F => gR rfl rfl (arm_loadS rfl (F.f 2 rfl) (V1.mono F.below)).b, ?_⟩
            refine ⟨fun _ _ F => gR rfl rfl (arm_bin rfl (F.f 1 rfl) (F.f 3 rfl) (fun _ => rfl) (fun w => by rw [H1.out]; exact run_eqBB _ _ w)).b, ?_⟩
            refine ⟨fun _ _ F => gR rfl rfl (arm_move (.inl rfl) (F.f 4 rfl)).b, ?_⟩
            refine ⟨fun _ _ F => gG F rfl rfl rfl rfl (arm_fieldF rfl (F.k 2 (Value.pointer (some ⟨w.heap.size, 0, none⟩))) (run_field1 _)).b, ?_⟩
            refine ⟨fun _ _ F => gG F rfl rfl rfl rfl (arm_load1 rfl (F.f 6 rfl) (V0.mono F.below)).b, ?_⟩
            refine ⟨fun _ _ F => gG F rfl rfl rfl rfl (arm_fieldF rfl (F.k 3 (Value.pointer (some ⟨w.heap.size + 1, 0, none⟩))) (run_field1 _)).b, ?_⟩
            refine ⟨fun _ _ F => gG F rfl rfl rfl rfl (arm_load1 rfl (F.f 8 rfl) (V1.mono F.below)).b, ?_⟩
            refine ⟨fun _ _ F => gG F rfl rfl rfl rfl (arm_C2 rfl (enters Tryz.func36 rfl rfl) (F.f 7 rfl) (F.f 9 rfl) (fun va vb w h1 h2 => c_ref_Same va vb xp yp w h1 h2 bxp byp) (fun _ _ h => by have h' : RetV _ _ _ _ := h; rw [H2.out] at h'; exact ofV h')).b, ?_⟩
            refine ⟨fun _ _ F => gR rfl rfl (arm_pick rfl (F.f 5 rfl) (fun _ => (F.f 10 rfl)) (fun h => by cases h)).b, ?_⟩
            refine ⟨fun _ _ F => gR rfl rfl (arm_move (.inl rfl) (F.f 11 rfl)).b, ?_⟩
            refine ⟨fun _ _ F => gG F rfl rfl rfl rfl (arm_fieldF rfl (F.k 2 (Value.pointer (some ⟨w.heap.size, 0, none⟩))) (run_field2 _)).b, ?_⟩
            refine ⟨fun _ _ F => gG F rfl rfl rfl rfl (arm_load2 rfl (F.f 13 rfl) (V0.mono F.below)).b, ?_⟩
            refine ⟨fun _ _ F => gG F rfl rfl rfl rfl (arm_fieldF rfl (F.k 3 (Value.pointer (some ⟨w.heap.size + 1, 0, none⟩))) (run_field2 _)).b, ?_⟩
            refine ⟨fun _ _ F => gG F rfl rfl rfl rfl (arm_load2 rfl (F.f 15 rfl) (V1.mono F.below)).b, ?_⟩
            refine ⟨fun _ _ F => gG F rfl rfl rfl rfl (arm_C2 rfl (enters Tryz.func36 rfl rfl) (F.f 14 rfl) (F.f 16 rfl) (fun va vb w h1 h2 => c_ref_Same va vb xq yq w h1 h2 bxq byq) (fun _ _ h => by have h' : RetV _ _ _ _ := h; rw [H3.out] at h'; exact ofV h')).b, ?_⟩
            refine ⟨fun _ _ F => gR rfl rfl (arm_pick rfl (F.f 12 rfl) (fun _ => (F.f 17 rfl)) (fun h => by cases h)).b, ?_⟩
            refine ⟨fun _ _ F => gR rfl rfl (arm_move (.inr rfl) (F.f 18 rfl)).b, ?_⟩
            exact trivial
          intro E' hE gp wp bp G Gs
          obtain rfl : E' = [] := by simpa [subs] using hE
          have e_19 : gp 19 = Value.bool false := G 19 4 _ (by simp) rfl
          clear G Gs hE
          simp only [SameT1]
          simp only [qA, setD, qZ, qS, e_19]
          refine wpAny_done (by kernel_rfl) ?_ _
          go_wp2_with fail
          go_meet
          case rel => exact ⟨rfl, (V0.mono bp), (V1.mono bp), (hb1.trans (bp.mono hb1.size))⟩
        case rest =>
        clear V0 V1 hb1
        obtain ⟨rfl, V0, V1, hb1⟩ := hcut
        go_wp2
        go_ret
        exact ⟨rfl, hb1⟩
    · have H2 : Hid (decide (xp = yp) = false) := Lib.hid (decide_eq_false h2)
      have hr : (Fq.mk xs xp xq).same (Fq.mk ys yp yq) = false := by unfold Fq.same; simp only; rw [h1, H2.out]; rfl
      rw [hr]
      clear hr h1 h2
      obtain ⟨a0, c0, b0, d0, rfl, m0, k0⟩ := boxF ha
      obtain ⟨a1, c1, b1, d1, rfl, m1, k1⟩ := boxF (hb.mono m0)
      rw [World.size_alloc ] at k1
      have n1 := m0.trans (m1.mono m0.size)
      clear ha hb
      go_enter Tryz.func14, Tryz.ntmps14
      go_upto_region 0 with (fail)
      go_cut [2, 3, 4] (fun s_2 s_3 s_4 wx => s_2 = Value.pointer (some ⟨w.heap.size, 0, none⟩) ∧ s_3 = Value.pointer (some ⟨w.heap.size + 1, 0, none⟩) ∧ s_4 = Value.bool false ∧ VarQ wx w.heap.size (Fq.mk xs xp xq) ∧ VarQ wx (w.heap.size + 1) (Fq.mk ys yp yq) ∧ Below w.heap.size w wx)
      case first =>
        go_wp2_with fail
        go_meet
        case rel => exact ⟨rfl, rfl, rfl, (k0.mono m1), k1, n1⟩
      case rest =>
      clear m0 k0 m1 k1 n1
      obtain ⟨rfl, rfl, rfl, V0, V1, hb1⟩ := hcut
      go_upto_region 1 with (fail)
      go_cut [4] (fun s_4 wx => s_4 = Value.bool false ∧ VarQ wx w.heap.size (Fq.mk xs xp xq) ∧ VarQ wx (w.heap.size + 1) (Fq.mk ys yp yq) ∧ Below w.heap.size w wx)
      case first =>
        refine wp_tabGF Tryz.f14 1 (SameT2 w xs ys xp yp) [] (fun _ => false) 14 0 (by kernel_rfl) (by kernel_rfl) (by kernel_rfl) (by kernel_rfl) (by kernel_rfl) (EachX.of_all (fun _ h => by cases h) _) ?_ ?_
        · refine ⟨fun _ _ F => gR rfl rfl (arm_fieldF rfl (F.k 2 (Value.pointer (some ⟨w.heap.size, 0, none⟩))) (run_field0 _)).b, ?_⟩
          refine ⟨fun _ _ F => gR rfl rfl (arm_loadS rfl (F.f 0 rfl) (V0.mono F.below)).b, ?_⟩
          refine ⟨fun _ _ F => gR rfl rfl (arm_fieldF rfl (F.k 3 (Value.pointer (some ⟨w.heap.size + 1, 0, none⟩))) (run_field0 _)).b, ?_⟩
          refine ⟨fun _ _ F => gR rfl rfl (arm_loadS rfl (F.f 2 rfl) (V1.mono F.below)).b, ?_⟩
          refine ⟨fun _ _ F => gR rfl rfl (arm_bin rfl (F.f 1 rfl) (F.f 3 rfl) (fun _ => rfl) (fun w => by rw [H1.out]; exact run_eqBB _ _ w)).b, ?_⟩
          refine ⟨fun _ _ F => gR rfl rfl (arm_move (.inl rfl) (F.f 4 rfl)).b, ?_⟩
          refine ⟨fun _ _ F => gG F rfl rfl rfl rfl (arm_fieldF rfl (F.k 2 (Value.pointer (some ⟨w.heap.size, 0, none⟩))) (run_field1 _)).b, ?_⟩
          refine ⟨fun _ _ F => gG F rfl rfl rfl rfl (arm_load1 rfl (F.f 6 rfl) (V0.mono F.below)).b, ?_⟩
          refine ⟨fun _ _ F => gG F rfl rfl rfl rfl (arm_fieldF rfl (F.k 3 (Value.pointer (some ⟨w.heap.size + 1, 0, none⟩))) (run_field1 _)).b, ?_⟩
          refine ⟨fun _ _ F => gG F rfl rfl rfl rfl (arm_load1 rfl (F.f 8 rfl) (V1.mono F.below)).b, ?_⟩
          refine ⟨fun _ _ F => gG F rfl rfl rfl rfl (arm_C2 rfl (enters Tryz.func36 rfl rfl) (F.f 7 rfl) (F.f 9 rfl) (fun va vb w h1 h2 => c_ref_Same va vb xp yp w h1 h2 bxp byp) (fun _ _ h => by have h' : RetV _ _ _ _ := h; rw [H2.out] at h'; exact ofV h')).b, ?_⟩
          refine ⟨fun _ _ F => gR rfl rfl (arm_pick rfl (F.f 5 rfl) (fun _ => (F.f 10 rfl)) (fun h => by cases h)).b, ?_⟩
          refine ⟨fun _ _ F => gR rfl rfl (arm_move (.inl rfl) (F.f 11 rfl)).b, ?_⟩
          refine ⟨fun _ _ F => gS F rfl rfl rfl rfl rfl rfl, ?_⟩
          refine ⟨fun _ _ F => gS F rfl rfl rfl rfl rfl rfl, ?_⟩
          refine ⟨fun _ _ F => gS F rfl rfl rfl rfl rfl rfl, ?_⟩
          refine ⟨fun _ _ F => gS F rfl rfl rfl rfl rfl rfl, ?_⟩
          refine ⟨fun _ _ F => gS F rfl rfl rfl rfl rfl rfl, ?_⟩
          refine ⟨fun _ _ F => gR rfl rfl (arm_pick rfl (F.f 12 rfl) (fun h => by cases h) (fun _ => Is.const)).b, ?_⟩
          refine ⟨fun _ _ F => gR rfl rfl (arm_move (.inr rfl) (F.f 18 rfl)).b, ?_⟩
          exact trivial
        intro E' hE gp wp bp G Gs
        obtain rfl : E' = [] := by simpa [subs] using hE
        have e_19 : gp 19 = Value.bool false := G 19 4 _ (by simp) rfl
        clear G Gs hE
        simp only [SameT2]
        simp only [qA, setD, qZ, qS, e_19]
        refine wpAny_done (by kernel_rfl) ?_ _
        go_wp2_with fail
        go_meet
        case rel => exact ⟨rfl, (V0.mono bp), (V1.mono bp), (hb1.trans (bp.mono hb1.size))⟩
      case rest =>
      clear V0 V1 hb1
      obtain ⟨rfl, V0, V1, hb1⟩ := hcut
      go_wp2
      go_ret
      exact ⟨rfl, hb1⟩
  · have H1 : Hid (false = (xs == ys)) := Lib.hid (Bool.eq_false_iff.2 h1).symm
    have hr : (Fq.mk xs xp xq).same (Fq.mk ys yp yq) = false := by unfold Fq.same; simp only; rw [← H1.out]; rfl
    rw [hr]
    clear hr h1
    obtain ⟨a0, c0, b0, d0, rfl, m0, k0⟩ := boxF ha
    obtain ⟨a1, c1, b1, d1, rfl, m1, k1⟩ := boxF (hb.mono m0)
    rw [World.size_alloc ] at k1
    have n1 := m0.trans (m1.mono m0.size)
    clear ha hb
    go_enter Tryz.func14, Tryz.ntmps14
    go_upto_region 0 with (fail)
    go_cut [2, 3, 4] (fun s_2 s_3 s_4 wx => s_2 = Value.pointer (some ⟨w.heap.size, 0, none⟩) ∧ s_3 = Value.pointer (some ⟨w.heap.size + 1, 0, none⟩) ∧ s_4 = Value.bool false ∧ VarQ wx w.heap.size (Fq.mk xs xp xq) ∧ VarQ wx (w.heap.size + 1) (Fq.mk ys yp yq) ∧ Below w.heap.size w wx)
    case first =>
      go_wp2_with fail
      go_meet
      case rel => exact ⟨rfl, rfl, rfl, (k0.mono m1), k1, n1⟩
    case rest =>
    clear m0 k0 m1 k1 n1
    obtain ⟨rfl, rfl, rfl, V0, V1, hb1⟩ := hcut
    go_upto_region 1 with (fail)
    go_cut [4] (fun s_4 wx => s_4 = Value.bool false ∧ VarQ wx w.heap.size (Fq.mk xs xp xq) ∧ VarQ wx (w.heap.size + 1) (Fq.mk ys yp yq) ∧ Below w.heap.size w wx)
    case first =>
      refine wp_tabGF Tryz.f14 1 (SameT3 w xs ys) [] (fun _ => false) 14 0 (by kernel_rfl) (by kernel_rfl) (by kernel_rfl) (by kernel_rfl) (by kernel_rfl) (EachX.of_all (fun _ h => by cases h) _) ?_ ?_
      · refine ⟨fun _ _ F => gR rfl rfl (arm_fieldF rfl (F.k 2 (Value.pointer (some ⟨w.heap.size, 0, none⟩))) (run_field0 _)).b, ?_⟩
        refine ⟨fun _ _ F => gR rfl rfl (arm_loadS rfl (F.f 0 rfl) (V0.mono F.below)).b, ?_⟩
        refine ⟨fun _ _ F => gR rfl rfl (arm_fieldF rfl (F.k 3 (Value.pointer (some ⟨w.heap.size + 1, 0, none⟩))) (run_field0 _)).b, ?_⟩
        refine ⟨fun _ _ F => gR rfl rfl (arm_loadS rfl (F.f 2 rfl) (V1.mono F.below)).b, ?_⟩
        refine ⟨fun _ _ F => gR rfl rfl (arm_bin rfl (F.f 1 rfl) (F.f 3 rfl) (fun _ => rfl) (fun w => by rw [H1.out]; exact run_eqBB _ _ w)).b, ?_⟩
        refine ⟨fun _ _ F => gR rfl rfl (arm_move (.inl rfl) (F.f 4 rfl)).b, ?_⟩
        refine ⟨fun _ _ F => gS F rfl rfl rfl rfl rfl rfl, ?_⟩
        refine ⟨fun _ _ F => gS F rfl rfl rfl rfl rfl rfl, ?_⟩
        refine ⟨fun _ _ F => gS F rfl rfl rfl rfl rfl rfl, ?_⟩
        refine ⟨fun _ _ F => gS F rfl rfl rfl rfl rfl rfl, ?_⟩
        refine ⟨fun _ _ F => gS F rfl rfl rfl rfl rfl rfl, ?_⟩
        refine ⟨fun _ _ F => gR rfl rfl (arm_pick rfl (F.f 5 rfl) (fun h => by cases h) (fun _ => Is.const)).b, ?_⟩
        refine ⟨fun _ _ F => gR rfl rfl (arm_move (.inl rfl) (F.f 11 rfl)).b, ?_⟩
        refine ⟨fun _ _ F => gS F rfl rfl rfl rfl rfl rfl, ?_⟩
        refine ⟨fun _ _ F => gS F rfl rfl rfl rfl rfl rfl, ?_⟩
        refine ⟨fun _ _ F => gS F rfl rfl rfl rfl rfl rfl, ?_⟩
        refine ⟨fun _ _ F => gS F rfl rfl rfl rfl rfl rfl, ?_⟩
        refine ⟨fun _ _ F => gS F rfl rfl rfl rfl rfl rfl, ?_⟩
        refine ⟨fun _ _ F => gR rfl rfl (arm_pick rfl (F.f 12 rfl) (fun h => by cases h) (fun _ => Is.const)).b, ?_⟩
        refine ⟨fun _ _ F => gR rfl rfl (arm_move (.inr rfl) (F.f 18 rfl)).b, ?_⟩
        exact trivial
      intro E' hE gp wp bp G Gs
      obtain rfl : E' = [] := by simpa [subs] using hE
      have e_19 : gp 19 = Value.bool false := G 19 4 _ (by simp) rfl
      clear G Gs hE
      simp only [SameT3]
      simp only [qA, setD, qZ, qS, e_19]
      refine wpAny_done (by kernel_rfl) ?_ _
      go_wp2_with fail
      go_meet
      case rel => exact ⟨rfl, (V0.mono bp), (V1.mono bp), (hb1.trans (bp.mono hb1.size))⟩
    case rest =>
    clear V0 V1 hb1
    obtain ⟨rfl, V0, V1, hb1⟩ := hcut
    go_wp2
    go_ret
    exact ⟨rfl, hb1⟩
end Go.Proofs.YtfhinmdhjlmikaaGreatDoor
namespace Go.Proofs.YtfhinmdhjlmikaaGreatDoor
set_option linter.unusedSimpArgs false
set_option linter.unusedVariables false
set_option maxRecDepth 100000
open Go.RowKit
/-- A fraction of rows, leading zeros allowed. -/
structure Rq where
  s : Bool
  L : Nat
  p : Nat
  N : Nat
  q : Nat
def Fq.raw (x : Fq) : Rq := ⟨x.s, nl x.p, x.p, nl x.q, x.q⟩
/-- The cells of a row of fractions. -/
def CellsR (w : World) : List Rq → List Value → Prop
  | [], cs => cs = []
  | r :: l, cs => ∃ a c b d cs', cs = .bool r.s :: .slice a r.L c :: .slice b r.N d :: cs' ∧ IsR w (.agg #[.slice a r.L c]) r.L r.p ∧ IsR w (.agg #[.slice b r.N d]) r.N r.q ∧ CellsR w l cs'
section
variable {w w' : World} {g g' : Nat} {l : List Rq} {cs : List Value} {T : TypeId}
theorem CellsR.mono (h : CellsR w l cs) (hb : Below w.heap.size w w') : CellsR w' l cs := by
  induction l generalizing cs with
  | nil => exact h
  | cons r l ih => obtain ⟨a, c, b, d, cs', e, h1, h2, h3⟩ := h; exact ⟨a, c, b, d, cs', e, h1.mono hb, h2.mono hb, ih h3⟩
theorem CellsR.upd (h : CellsR w l cs) (o : Own w g) (u : Upd w g w') : CellsR w' l cs := by
  induction l generalizing cs with
  | nil => exact h
  | cons r l ih => obtain ⟨a, c, b, d, cs', e, h1, h2, h3⟩ := h; exact ⟨a, c, b, d, cs', e, h1.upd o u, h2.upd o u, ih h3⟩
theorem CellsR.noInt (h : CellsR w l cs) (k : Nat) (n : Int) : cs[k]? ≠ some (Value.int .u32 n) := by
  induction l generalizing cs k with
  | nil => have e : cs = [] := h; rw [e]; simp
  | cons r l ih =>
    obtain ⟨a, c, b, d, cs', e, _, _, h3⟩ := h
    rw [e]
    match k with
    | 0 => intro h; cases h
    | 1 => intro h; cases h
    | 2 => intro h; cases h
    | k + 3 => exact ih h3 k
theorem CellsR.length (h : CellsR w l cs) : cs.length = 3 * l.length := by
  induction l generalizing cs with
  | nil => have e : cs = [] := h; rw [e]; rfl
  | cons r l ih => obtain ⟨a, c, b, d, cs', e, _, _, h3⟩ := h; have := ih h3; rw [e]; simp only [List.length_cons]; omega
theorem CellsR.get (h : CellsR w l cs) {k : Nat} {r : Rq} (hk : l[k]? = some r) :
    ∃ a c b d, cs[3 * k]? = some (.bool r.s) ∧ cs[3 * k + 1]? = some (.slice a r.L c) ∧ cs[3 * k + 2]? = some (.slice b r.N d) ∧ IsR w (.agg #[.slice a r.L c]) r.L r.p ∧ IsR w (.agg #[.slice b r.N d]) r.N r.q := by
  induction l generalizing cs k with
  | nil => cases hk
  | cons x l ih =>
    obtain ⟨a, c, b, d, cs', e, h1, h2, h3⟩ := h
    rw [e]
    match k with
    | 0 => simp at hk; subst hk; exact ⟨a, c, b, d, rfl, rfl, rfl, h1, h2⟩
    | k + 1 =>
      obtain ⟨a', c', b', d', e0, e1, e2, i1, i2⟩ := ih h3 (k := k) (by simpa using hk)
      exact ⟨a', c', b', d', by simpa [Nat.mul_add] using e0, by simpa [Nat.mul_add] using e1, by simpa [Nat.mul_add] using e2, i1, i2⟩
/-- A part of a row is replaced. -/
theorem CellsR.set (h : CellsR w l cs) {k : Nat} {r : Rq} (hk : k < l.length) {a b : Option Addr} {c d : Nat} (h1 : IsR w (.agg #[.slice a r.L c]) r.L r.p) (h2 : IsR w (.agg #[.slice b r.N d]) r.N r.q) :
    CellsR w (l.set k r) (((cs.set (3 * k) (.bool r.s)).set (3 * k + 1) (.slice a r.L c)).set (3 * k + 2) (.slice b r.N d)) := by
  induction l generalizing cs k with
  | nil => cases hk
  | cons x l ih =>
    obtain ⟨a', c', b', d', cs', e, i1, i2, i3⟩ := h
    rw [e]
    match k with
    | 0 => exact ⟨a, c, b, d, cs', rfl, h1, h2, i3⟩
    | k + 1 =>
      have := ih i3 (k := k) (by simpa using hk)
      exact ⟨a', c', b', d', _, by simp [Nat.mul_add], i1, i2, this⟩
def IsL (w : World) (v : Value) (l : List Rq) : Prop := ∃ cs, v = .agg cs.toArray ∧ CellsR w l cs
def VarL (T : TypeId) (w : World) (g : Nat) (l : List Rq) : Prop := ∃ cs, w.heap[g]? = some (.cells cs.toArray T (0, 0)) ∧ CellsR w l cs
theorem IsL.mono {v : Value} (h : IsL w v l) (hb : Below w.heap.size w w') : IsL w' v l := by obtain ⟨cs, e, h⟩ := h; exact ⟨cs, e, h.mono hb⟩
theorem IsL.upd {v : Value} (h : IsL w v l) (o : Own w g) (u : Upd w g w') : IsL w' v l := by obtain ⟨cs, e, h⟩ := h; exact ⟨cs, e, h.upd o u⟩
theorem VarL.lt (h : VarL T w g l) : g < w.heap.size := by obtain ⟨_, h, _⟩ := h; exact (Array.getElem?_eq_some_iff.1 h).1
theorem VarL.mono (h : VarL T w g l) (hb : Below w.heap.size w w') : VarL T w' g l := by
  have hl := h.lt
  obtain ⟨cs, h0, h1⟩ := h; exact ⟨cs, (hb.block g hl).trans h0, h1.mono hb⟩
theorem VarL.upd (h : VarL T w g' l) (o : Own w g) (u : Upd w g w') (hn : g' ≠ g) : VarL T w' g' l := by
  obtain ⟨cs, h0, h1⟩ := h; exact ⟨cs, (u.block g' hn).trans h0, h1.upd o u⟩
theorem VarL.own (h : VarL T w g l) : Own w g := by
  obtain ⟨cs, h0, h1⟩ := h
  exact ⟨cs.toArray, T, h0, fun k n => by rw [List.getElem?_toArray]; exact h1.noInt k n⟩
theorem VarL.get (h : VarL T w g l) {k : Nat} {r : Rq} (hk : l[k]? = some r) :
    ∃ a c b d, w.cell? ⟨g, 3 * k, none⟩ = some (.bool r.s) ∧ w.cell? ⟨g, 3 * k + 1, none⟩ = some (.slice a r.L c) ∧ w.cell? ⟨g, 3 * k + 2, none⟩ = some (.slice b r.N d) ∧ IsR w (.agg #[.slice a r.L c]) r.L r.p ∧ IsR w (.agg #[.slice b r.N d]) r.N r.q := by
  obtain ⟨cs, h0, h1⟩ := h
  obtain ⟨a, c, b, d, e0, e1, e2, i1, i2⟩ := h1.get hk
  exact ⟨a, c, b, d, by rw [cell_of_row w g _ _ _ (0, 0) h0, List.getElem?_toArray]; exact e0, by rw [cell_of_row w g _ _ _ (0, 0) h0, List.getElem?_toArray]; exact e1, by rw [cell_of_row w g _ _ _ (0, 0) h0, List.getElem?_toArray]; exact e2, i1, i2⟩
theorem VarL.frozen (h : VarL T w g l) (j : Nat) : w.frozen? ⟨g, j, none⟩ = false := by obtain ⟨cs, h0, _⟩ := h; exact frozen_of_row w g j _ _ h0
end
section
variable {Q : Exit → Act → World → Prop} {o : Oper} {a : Act} {w : World} {x y : Operand} {g k : Nat} {l : List Rq} {r : Rq} {T : TypeId}
end
section
variable {Q : Exit → Act → World → Prop} {o : Oper} {a : Act} {w : World} {x y z u : Operand} {f : FuncId} {tt : Array TypeId} {S S1 S2 S3 : Sp} {R : World → Ending → World → Prop}
end
end Go.Proofs.YtfhinmdhjlmikaaGreatDoor
namespace Go.Proofs.YtfhinmdhjlmikaaGreatDoor
set_option linter.unusedSimpArgs false
set_option linter.unusedVariables false
set_option maxRecDepth 100000
open Go.RowKit
def fr3 (x : Fq) : Rho := [.val (.bool x.s), .dig (nl x.p) x.p, .dig (nl x.q) x.q]
def frs : List Fq → Rho
  | [] => []
  | x :: xs => .val (.bool x.s) :: .dig (nl x.p) x.p :: .dig (nl x.q) x.q :: frs xs
def leaf3 (k : Nat) : List Leaf := [.ref (3 * k), .ref (3 * k + 1), .ref (3 * k + 2)]
def fr (k : Nat) : SV := .agg (leaf3 k)
def leafs : List Nat → List Leaf
  | [] => []
  | k :: ks => .ref (3 * k) :: .ref (3 * k + 1) :: .ref (3 * k + 2) :: leafs ks
def row (ks : List Nat) : SV := .agg (leafs ks)
def AtL (xs : List Fq) : List Nat → List Fq → Prop
  | [], [] => True
  | k :: ks, x :: vs => xs[k]? = some x ∧ AtL xs ks vs
  | _, _ => False
section
variable {xs : List Fq} {ys : Rho} {x y z : Fq} {i j k : Nat} {B : Blk} {w : World} {v : Value}
theorem frs_at : ∀ {xs : List Fq} {k : Nat} {x : Fq}, xs[k]? = some x → (frs xs ++ ys)[3 * k]? = some (.val (.bool x.s)) ∧ (frs xs ++ ys)[3 * k + 1]? = some (.dig (nl x.p) x.p) ∧ (frs xs ++ ys)[3 * k + 2]? = some (.dig (nl x.q) x.q)
  | [], _, _, h => by simp at h
  | x :: xs, 0, y, h => by simp at h; subst h; exact ⟨rfl, rfl, rfl⟩
  | x :: xs, k + 1, y, h => by
    have := frs_at (xs := xs) (k := k) (x := y) (by simpa using h)
    simpa [frs, Nat.mul_add] using this
theorem leaf_s {s : Bool} (h : (frs xs ++ ys)[i]? = some (.val (.bool s))) : (Leaf.ref i).holds (frs xs ++ ys) B w v ↔ v = .bool s := by
  constructor
  · rintro ⟨t, h1, h2⟩
    rw [h] at h1; injection h1 with h1; subst h1; exact h2.1
  · rintro rfl
    exact ⟨_, h, rfl, ⟨fun _ h => by (cases h), fun _ h => by (cases h), fun _ h => by (cases h)⟩⟩
theorem leaf_d {L N : Nat} (h : (frs xs ++ ys)[i]? = some (.dig L N)) : (Leaf.ref i).holds (frs xs ++ ys) B w v ↔ IsR w (.agg #[v]) L N := by
  constructor
  · rintro ⟨t, h1, h2⟩
    rw [h] at h1; injection h1 with h1; subst h1; exact h2
  · intro h2; exact ⟨_, h, h2⟩
theorem isR_slice {L N : Nat} (h : IsR w (.agg #[v]) L N) : ∃ a c, v = .slice a L c := by
  obtain ⟨a, c, e, _⟩ := h
  have e2 : v = .slice a L c := by
    injection e with e
    have := congrArg (fun x : Array Value => x[0]?) e
    simpa using this
  exact ⟨a, c, e2⟩
theorem row_holds : ∀ {ks : List Nat} {vs : List Fq} {cs : List Value}, AtL xs ks vs → (LeavesH (frs xs ++ ys) B w (leafs ks) cs ↔ CellsR w (vs.map Fq.raw) cs)
  | [], [], cs, _ => by
    constructor
    · intro h; match cs, h with | [], _ => rfl
    · intro h; have h : cs = [] := h; subst h; trivial
  | k :: ks, x :: vs, cs, h => by
    obtain ⟨h1, h2, h3⟩ := frs_at (ys := ys) h.1
    have ih := fun cs => row_holds (ks := ks) (vs := vs) (cs := cs) h.2
    constructor
    · intro hl
      match cs, hl with
      | u1 :: u2 :: u3 :: cs', hl =>
        obtain ⟨g1, g2, g3, g4⟩ := hl
        have e1 := (leaf_s h1).1 g1
        have e2 := (leaf_d h2).1 g2
        have e3 := (leaf_d h3).1 g3
        obtain ⟨a, c, rfl⟩ := isR_slice e2
        obtain ⟨b, d, rfl⟩ := isR_slice e3
        subst e1
        exact ⟨a, c, b, d, cs', rfl, e2, e3, (ih cs').1 g4⟩
      | [], hl => exact hl.elim
      | [_], hl => exact hl.2.elim
      | [_, _], hl => exact hl.2.2.elim
    · rintro ⟨a, c, b, d, cs', rfl, i1, i2, i3⟩
      exact ⟨(leaf_s h1).2 rfl, (leaf_d h2).2 i1, (leaf_d h3).2 i2, (ih cs').2 i3⟩
  | [], _ :: _, _, h => h.elim
  | _ :: _, [], _, h => h.elim
theorem row_isL {ks : List Nat} {vs : List Fq} (h : AtL xs ks vs) : (row ks).holds (frs xs ++ ys) B w v ↔ IsL w v (vs.map Fq.raw) := by
  constructor
  · rintro ⟨cs, rfl, h1⟩; exact ⟨cs, rfl, (row_holds h).1 h1⟩
  · rintro ⟨cs, rfl, h1⟩; exact ⟨cs, rfl, (row_holds h).2 h1⟩
theorem fr_isQ (h : xs[k]? = some x) : (fr k).holds (frs xs ++ ys) B w v ↔ IsQ w v x := by
  have := row_isL (ys := ys) (B := B) (w := w) (v := v) (ks := [k]) (vs := [x]) ⟨h, trivial⟩
  show (row [k]).holds _ B w v ↔ _
  rw [this]
  constructor
  · rintro ⟨cs, rfl, a, c, b, d, cs', rfl, i1, i2, e⟩
    have e : cs' = [] := e
    subst e
    exact ⟨a, c, b, d, rfl, i1, i2⟩
  · rintro ⟨a, c, b, d, rfl, i1, i2⟩
    exact ⟨_, rfl, a, c, b, d, [], rfl, i1, i2, rfl⟩
abbrev OkI (xs : List Fq) (ys : Rho) (i : Inst) : Prop := i.Ok Tryz.prog (frs xs ++ ys)
theorem il_nil {ρ : Rho} {w : World} : ∀ i ∈ ([] : List Inst), i.Ok0 Tryz.prog ρ w := fun i h => by cases h
theorem il_cons {ρ : Rho} {w : World} {i : Inst} {l : List Inst} (h : i.Ok Tryz.prog ρ) (r : ∀ i ∈ l, i.Ok0 Tryz.prog ρ w) : ∀ j ∈ i :: l, j.Ok0 Tryz.prog ρ w := fun j hj => by
  rcases List.mem_cons.1 hj with rfl | hj
  · exact h.to0 w
  · exact r j hj
theorem ol_nil {ρ : Rho} : ∀ i ∈ ([] : List OIns), i.Ok Tryz.prog ρ := fun i h => by cases h
theorem ol_cons {ρ : Rho} {i : OIns} {l : List OIns} (h : i.Ok Tryz.prog ρ) (r : ∀ i ∈ l, i.Ok Tryz.prog ρ) : ∀ j ∈ i :: l, j.Ok Tryz.prog ρ := fun j hj => by
  rcases List.mem_cons.1 hj with rfl | hj
  · exact h
  · exact r j hj
abbrev Ent' (f : FuncId) : Prop := ∀ (vs : Array Value) (w : World), (callFunc f vs).run Tryz.prog w = .ok (.enter f vs) w
theorem inst2 {f : FuncId} (hen : Ent' f) (hc : ∀ va vb w, IsQ w va x → IsQ w vb y → Calls Tryz.prog f #[va, vb] w (fun e w' => RetQ w z e w')) (hi : xs[i]? = some x) (hj : xs[j]? = some y) (hk : xs[k]? = some z) : OkI xs ys ⟨f, [fr i, fr j], .v (fr k)⟩ :=
  ⟨hen, fun B w vs h => by
    match vs, h with
    | [va, vb], h =>
      refine (hc va vb w ((fr_isQ hi).1 h.1) ((fr_isQ hj).1 h.2.1)).mono ?_
      rintro e w' ⟨v, rfl, h1, h2⟩
      exact ⟨v, rfl, (fr_isQ hk).2 h1, h2⟩⟩
end
end Go.Proofs.YtfhinmdhjlmikaaGreatDoor
namespace Go.Proofs.YtfhinmdhjlmikaaGreatDoor
set_option linter.unusedSimpArgs false
set_option linter.unusedVariables false
set_option maxRecDepth 100000
open Go.RowKit
section
variable {xs : List Fq} {ys ρ : Rho} {x y z : Fq} {i j k n : Nat} {u c : Int} {b d : Bool} {l : Leaf} {f : FuncId} {op : BinOp} {t : TypeId}
/-- A leaf that holds a number, a truth value. -/
theorem li (h : u = c) : ∀ B w, (Leaf.i .i64 c).holds ρ B w (.int .i64 u) := fun _ _ => by subst h; rfl
theorem lb (h : b = d) : ∀ B w, (Leaf.b d).holds ρ B w (.bool b) := fun _ _ => by subst h; rfl
theorem flat_int : Flat (.int .i64 u) := ⟨fun _ h => by (cases h), fun _ h => by (cases h), fun _ h => by (cases h)⟩
theorem flat_bool : Flat (.bool b) := ⟨fun _ h => by (cases h), fun _ h => by (cases h), fun _ h => by (cases h)⟩
theorem flat_str {s : ByteArray} : Flat (.string s) := ⟨fun _ h => by (cases h), fun _ h => by (cases h), fun _ h => by (cases h)⟩
theorem lr (hn : ρ[n]? = some (.val (.int .i64 u))) : ∀ B w, (Leaf.ref n).holds ρ B w (.int .i64 u) := fun _ _ => ⟨_, hn, rfl, flat_int⟩
theorem ls {s : ByteArray} (hn : ρ[n]? = some (.val (.string s))) : ∀ B w, (Leaf.ref n).holds ρ B w (.string s) := fun _ _ => ⟨_, hn, rfl, flat_str⟩
theorem inst1V {v : Value} (hen : Ent' f) (hc : ∀ va w, IsQ w va x → Calls Tryz.prog f #[va] w (fun e w' => RetV w v e w')) (hi : xs[i]? = some x) (hl : ∀ B w, l.holds (frs xs ++ ys) B w v) : OkI xs ys ⟨f, [fr i], .v (.one l)⟩ :=
  ⟨hen, fun B w vs h => by
    match vs, h with
    | [va], h =>
      refine (hc va w ((fr_isQ hi).1 h.1)).mono ?_
      rintro e w' ⟨rfl, h2⟩
      exact ⟨_, rfl, hl B w', h2⟩⟩
theorem inst2V {v : Value} (hen : Ent' f) (hc : ∀ va vb w, IsQ w va x → IsQ w vb y → Calls Tryz.prog f #[va, vb] w (fun e w' => RetV w v e w')) (hi : xs[i]? = some x) (hj : xs[j]? = some y) (hl : ∀ B w, l.holds (frs xs ++ ys) B w v) : OkI xs ys ⟨f, [fr i, fr j], .v (.one l)⟩ :=
  ⟨hen, fun B w vs h => by
    match vs, h with
    | [va, vb], h =>
      refine (hc va vb w ((fr_isQ hi).1 h.1) ((fr_isQ hj).1 h.2.1)).mono ?_
      rintro e w' ⟨rfl, h2⟩
      exact ⟨_, rfl, hl B w', h2⟩⟩
theorem instIQ (hen : Ent' f) (hc : ∀ w, Calls Tryz.prog f #[.int .i64 u] w (fun e w' => RetQ w z e w')) (hk : xs[k]? = some z) : OkI xs ys ⟨f, [.one (.i .i64 u)], .v (fr k)⟩ :=
  ⟨hen, fun B w vs h => by
    match vs, h with
    | [va], h =>
      have e : va = .int .i64 u := h.1
      subst e
      refine (hc w).mono ?_
      rintro e w' ⟨v, rfl, h1, h2⟩
      exact ⟨v, rfl, (fr_isQ hk).2 h1, h2⟩⟩
theorem I_fMul (hi : xs[i]? = some x) (hj : xs[j]? = some y) (hk : xs[k]? = some (x.mul y)) (ox : x.ok 1000000000) (oy : y.ok 1000000000) : OkI xs ys ⟨34, [fr i, fr j], .v (fr k)⟩ :=
  inst2 (enters Tryz.func34 rfl rfl) (fun va vb w h1 h2 => q_fMul va vb x y w h1 h2 ox oy) hi hj hk
theorem I_fAdd (hi : xs[i]? = some x) (hj : xs[j]? = some y) (hk : xs[k]? = some (x.add y)) (ox : x.ok 1000000000) (oy : y.ok 1000000000) : OkI xs ys ⟨30, [fr i, fr j], .v (fr k)⟩ :=
  inst2 (enters Tryz.func30 rfl rfl) (fun va vb w h1 h2 => q_fAdd va vb x y w h1 h2 ox oy) hi hj hk
theorem I_fSub (hi : xs[i]? = some x) (hj : xs[j]? = some y) (hk : xs[k]? = some (x.sub y)) (ox : x.ok 1000000000) (oy : y.ok 1000000000) : OkI xs ys ⟨32, [fr i, fr j], .v (fr k)⟩ :=
  inst2 (enters Tryz.func32 rfl rfl) (fun va vb w h1 h2 => q_fSub va vb x y w h1 h2 ox oy) hi hj hk
theorem I_fCmp (hi : xs[i]? = some x) (hj : xs[j]? = some y) (hl : ∀ B w, l.holds (frs xs ++ ys) B w (.int .i64 (x.cmp y))) (ox : x.ok 1000000000) (oy : y.ok 1000000000) : OkI xs ys ⟨40, [fr i, fr j], .v (.one l)⟩ :=
  inst2V (enters Tryz.func40 rfl rfl) (fun va vb w h1 h2 => q_fCmp va vb x y w h1 h2 ox oy) hi hj hl
theorem I_fInt (hk : xs[k]? = some (.ofInt u)) (lu : -9223372036854775808 ≤ u) (ru : u < 9223372036854775808) : OkI xs ys ⟨45, [.one (.i .i64 u)], .v (fr k)⟩ :=
  instIQ (enters Tryz.func45 rfl rfl) (fun w => q_fInt u w lu ru) hk
theorem I_rMul (hi : xs[i]? = some x) (hj : xs[j]? = some y) (hk : xs[k]? = some (x.mul y)) (ox : x.ok 1000000000) (oy : y.ok 1000000000) : OkI xs ys ⟨35, [fr i, fr j], .v (fr k)⟩ :=
  inst2 (enters Tryz.func35 rfl rfl) (fun va vb w h1 h2 => q_rMul va vb x y w h1 h2 ox oy) hi hj hk
theorem I_rAdd (hi : xs[i]? = some x) (hj : xs[j]? = some y) (hk : xs[k]? = some (x.add y)) (ox : x.ok 1000000000) (oy : y.ok 1000000000) : OkI xs ys ⟨31, [fr i, fr j], .v (fr k)⟩ :=
  inst2 (enters Tryz.func31 rfl rfl) (fun va vb w h1 h2 => q_rAdd va vb x y w h1 h2 ox oy) hi hj hk
theorem I_rSub (hi : xs[i]? = some x) (hj : xs[j]? = some y) (hk : xs[k]? = some (x.sub y)) (ox : x.ok 1000000000) (oy : y.ok 1000000000) : OkI xs ys ⟨33, [fr i, fr j], .v (fr k)⟩ :=
  inst2 (enters Tryz.func33 rfl rfl) (fun va vb w h1 h2 => q_rSub va vb x y w h1 h2 ox oy) hi hj hk
theorem I_rInt (hk : xs[k]? = some (.ofInt u)) (lu : -9223372036854775808 ≤ u) (ru : u < 9223372036854775808) : OkI xs ys ⟨27, [.one (.i .i64 u)], .v (fr k)⟩ :=
  instIQ (enters Tryz.func27 rfl rfl) (fun w => q_rInt u w lu ru) hk
theorem I_rValid (hi : xs[i]? = some x) (hl : ∀ B w, l.holds (frs xs ++ ys) B w (.bool x.valid)) (ox : x.ok 1000000) : OkI xs ys ⟨23, [fr i], .v (.one l)⟩ :=
  inst1V (enters Tryz.func23 rfl rfl) (fun va w h1 => q_rValid va x w h1 ox.p ox.q) hi hl
theorem I_rSame (hi : xs[i]? = some x) (hj : xs[j]? = some y) (hl : ∀ B w, l.holds (frs xs ++ ys) B w (.bool (x.same y))) (hp : nl x.p ≤ 1000000000000) (hq : nl x.q ≤ 1000000000000) (kp : nl y.p ≤ 1000000000000) (kq : nl y.q ≤ 1000000000000) : OkI xs ys ⟨14, [fr i, fr j], .v (.one l)⟩ :=
  inst2V (enters Tryz.func14 rfl rfl) (fun va vb w h1 h2 => q_SameB va vb x y w h1 h2 hp hq kp kq) hi hj hl
theorem ne_eql (h : u ≠ c) : (u == c) = false := by simpa using h
theorem isR00 (w : World) : IsR w (.agg #[.slice none 0 0]) 0 0 := ⟨none, 0, rfl, Nat.le_refl _, by simp, fun h => by omega⟩
theorem zero_row {B : Blk} {w : World} : ∀ {n : Nat} {cs : List Value}, LeavesH ρ B w (List.replicate n [Leaf.b false, .sl0, .sl0]).flatten cs → CellsR w (List.replicate n Fq.zero.raw) cs
  | 0, cs, h => by
    match cs, h with
    | [], _ => rfl
  | n + 1, cs, h => by
    match cs, h with
    | u1 :: u2 :: u3 :: cs', h =>
      obtain ⟨g1, g2, g3, g4⟩ := h
      have e1 : u1 = .bool false := g1
      have e2 : u2 = .slice none 0 0 := g2
      have e3 : u3 = .slice none 0 0 := g3
      subst e1; subst e2; subst e3
      have hz : nl 0 = 0 := nl_zero
      refine ⟨none, 0, none, 0, cs', ?_, ?_, ?_, zero_row (n := n) g4⟩
      · simp [Fq.raw, Fq.zero, hz]
      · simp only [Fq.raw, Fq.zero, hz]; exact isR00 w
      · simp only [Fq.raw, Fq.zero, hz]; exact isR00 w
    | [], h => exact h.elim
    | [_], h => exact h.2.elim
    | [_, _], h => exact h.2.2.elim
end
end Go.Proofs.YtfhinmdhjlmikaaGreatDoor
namespace Go.Proofs.YtfhinmdhjlmikaaGreatDoor
set_option linter.unusedSimpArgs false
set_option linter.unusedVariables false
set_option maxRecDepth 100000
open Go.RowKit
abbrev IsVq (w : World) (v : Value) (a : Vq) : Prop := IsL w v [a.x.raw, a.y.raw, a.z.raw]
abbrev RetL (W : World) (l : List Rq) (e : Ending) (w' : World) : Prop := ∃ v, e = .returned v ∧ IsL w' v l ∧ Below W.heap.size W w'
abbrev RetVq (W : World) (a : Vq) (e : Ending) (w' : World) : Prop := RetL W [a.x.raw, a.y.raw, a.z.raw] e w'
def RetLE (W : World) (l : List Rq) (c : Int) (e : Ending) (w' : World) : Prop := ∃ v, e = .returned (.tuple #[v, .int .i64 c]) ∧ IsL w' v l ∧ Below W.heap.size W w'
theorem ok_int {u : Int} (lu : -9223372036854775808 ≤ u) (ru : u < 9223372036854775808) : (Fq.ofInt u).ok 2 := ⟨nl_abs lu ru, nl_le_iff.2 (by show (1 : Nat) < 4294967296 ^ 2; decide), by show (1 : Nat) ≠ 0; decide⟩
def xtimesX (x y : Fq) : List Fq := [x, y, (x.mul y)]
theorem q_times (vp : Value) (x y : Fq) (w : World) (ip : IsL w vp [x.raw, y.raw]) (hx : x.ok 1000000000) (hy : y.ok 1000000000) :
    Calls Tryz.prog 37 #[vp] w fun e w' => RetQ w (x.mul y) e w' := by
  refine (calls_runFn (ρ := frs (xtimesX x y) ++ []) (w := w) (fuel := 300) (args := [row [0, 1]]) (vs := [vp]) (r := .v (fr 2))
    (il_cons (I_fMul (i := 0) (j := 1) (k := 2) rfl rfl rfl (hx.mono (by decide)) (hy.mono (by decide))) il_nil)
    ol_nil (by kernel_rfl) Tryz.func37 (by kernel_rfl) ⟨(row_isL (xs := xtimesX x y) (ks := [0, 1]) (vs := [x, y]) ⟨rfl, rfl, trivial⟩).2 ip, trivial⟩).mono ?_
  rintro e w' ⟨v, rfl, h1, h2⟩
  exact ⟨v, rfl, (fr_isQ (xs := xtimesX x y) (k := 2) rfl).1 h1, h2⟩
theorem I_times {xs : List Fq} {ys : Rho} {ks : List Nat} {k : Nat} {x y : Fq} (hi : AtL xs ks [x, y]) (hk : xs[k]? = some (x.mul y)) (hx : x.ok 1000000000) (hy : y.ok 1000000000) : OkI xs ys ⟨37, [row ks], .v (fr k)⟩ :=
  ⟨enters Tryz.func37 rfl rfl, fun B w vs h => by
    match vs, h with
    | [va], h =>
      refine (q_times va x y w ((row_isL hi).1 h.1) hx hy).mono ?_
      rintro e w' ⟨v, rfl, h1, h2⟩
      exact ⟨v, rfl, (fr_isQ hk).2 h1, h2⟩⟩
def xlessX (x y : Fq) : List Fq := [x, y, (x.sub y)]
theorem q_less (vp : Value) (x y : Fq) (w : World) (ip : IsL w vp [x.raw, y.raw]) (hx : x.ok 1000000000) (hy : y.ok 1000000000) :
    Calls Tryz.prog 38 #[vp] w fun e w' => RetQ w (x.sub y) e w' := by
  refine (calls_runFn (ρ := frs (xlessX x y) ++ []) (w := w) (fuel := 300) (args := [row [0, 1]]) (vs := [vp]) (r := .v (fr 2))
    (il_cons (I_fSub (i := 0) (j := 1) (k := 2) rfl rfl rfl (hx.mono (by decide)) (hy.mono (by decide))) il_nil)
    ol_nil (by kernel_rfl) Tryz.func38 (by kernel_rfl) ⟨(row_isL (xs := xlessX x y) (ks := [0, 1]) (vs := [x, y]) ⟨rfl, rfl, trivial⟩).2 ip, trivial⟩).mono ?_
  rintro e w' ⟨v, rfl, h1, h2⟩
  exact ⟨v, rfl, (fr_isQ (xs := xlessX x y) (k := 2) rfl).1 h1, h2⟩
theorem I_less {xs : List Fq} {ys : Rho} {ks : List Nat} {k : Nat} {x y : Fq} (hi : AtL xs ks [x, y]) (hk : xs[k]? = some (x.sub y)) (hx : x.ok 1000000000) (hy : y.ok 1000000000) : OkI xs ys ⟨38, [row ks], .v (fr k)⟩ :=
  ⟨enters Tryz.func38 rfl rfl, fun B w vs h => by
    match vs, h with
    | [va], h =>
      refine (q_less va x y w ((row_isL hi).1 h.1) hx hy).mono ?_
      rintro e w' ⟨v, rfl, h1, h2⟩
      exact ⟨v, rfl, (fr_isQ hk).2 h1, h2⟩⟩
def xeachAddX (a : Vq) (b : Vq) : List Fq := [a.x, a.y, a.z, b.x, b.y, b.z, (a.x.add b.x), (a.y.add b.y), (a.z.add b.z)]
theorem q_eachAdd (va vb : Value) (a : Vq) (b : Vq) (w : World) (ia : IsVq w va a) (ib : IsVq w vb b) (ha : a.ok 100000000) (hb : b.ok 100000000) :
    Calls Tryz.prog 29 #[va, vb, fnV 30] w fun e w' => RetVq w (a.add b) e w' := by
  refine (calls_runFn (ρ := frs (xeachAddX a b) ++ []) (w := w) (fuel := 300) (args := [row [0, 1, 2], row [3, 4, 5], .one (.fn 30)]) (vs := [va, vb, fnV 30]) (r := .v (row [6, 7, 8]))
    (il_cons (I_fAdd (i := 0) (j := 3) (k := 6) rfl rfl rfl (ha.x.mono (by decide)) (hb.x.mono (by decide))) (il_cons (I_fAdd (i := 1) (j := 4) (k := 7) rfl rfl rfl (ha.y.mono (by decide)) (hb.y.mono (by decide))) (il_cons (I_fAdd (i := 2) (j := 5) (k := 8) rfl rfl rfl (ha.z.mono (by decide)) (hb.z.mono (by decide))) il_nil)))
    ol_nil (by kernel_rfl) Tryz.func29 (by kernel_rfl) ⟨(row_isL (xs := xeachAddX a b) (ks := [0, 1, 2]) (vs := [a.x, a.y, a.z]) ⟨rfl, rfl, rfl, trivial⟩).2 ia, ⟨(row_isL (xs := xeachAddX a b) (ks := [3, 4, 5]) (vs := [b.x, b.y, b.z]) ⟨rfl, rfl, rfl, trivial⟩).2 ib, ⟨rfl, trivial⟩⟩⟩).mono ?_
  rintro e w' ⟨v, rfl, h1, h2⟩
  exact ⟨v, rfl, (row_isL (xs := xeachAddX a b) (ks := [6, 7, 8]) (vs := [(a.x.add b.x), (a.y.add b.y), (a.z.add b.z)]) ⟨rfl, rfl, rfl, trivial⟩).1 h1, h2⟩
theorem I_eachAdd {xs : List Fq} {ys : Rho} {ka : List Nat} {kb : List Nat} {a : Vq} {b : Vq} {kr : List Nat} (aa : AtL xs ka [a.x, a.y, a.z]) (ab : AtL xs kb [b.x, b.y, b.z]) (ar : AtL xs kr [(a.add b).x, (a.add b).y, (a.add b).z]) (ha : a.ok 100000000) (hb : b.ok 100000000) : OkI xs ys ⟨29, [row ka, row kb, .one (.fn 30)], .v (row kr)⟩ :=
  ⟨enters Tryz.func29 rfl rfl, fun B w vs h => by
    match vs, h with
    | [va, vb, vf], h =>
      have ef : vf = fnV 30 := h.2.2.1
      subst ef
      refine (q_eachAdd va vb a b w ((row_isL aa).1 h.1) ((row_isL ab).1 h.2.1) ha hb).mono ?_
      rintro e w' ⟨v, rfl, h1, h2⟩
      exact ⟨v, rfl, (row_isL ar).2 h1, h2⟩⟩
def xeachSubX (a : Vq) (b : Vq) : List Fq := [a.x, a.y, a.z, b.x, b.y, b.z, (a.x.sub b.x), (a.y.sub b.y), (a.z.sub b.z)]
theorem q_eachSub (va vb : Value) (a : Vq) (b : Vq) (w : World) (ia : IsVq w va a) (ib : IsVq w vb b) (ha : a.ok 100000000) (hb : b.ok 100000000) :
    Calls Tryz.prog 29 #[va, vb, fnV 32] w fun e w' => RetVq w (a.sub b) e w' := by
  refine (calls_runFn (ρ := frs (xeachSubX a b) ++ []) (w := w) (fuel := 300) (args := [row [0, 1, 2], row [3, 4, 5], .one (.fn 32)]) (vs := [va, vb, fnV 32]) (r := .v (row [6, 7, 8]))
    (il_cons (I_fSub (i := 0) (j := 3) (k := 6) rfl rfl rfl (ha.x.mono (by decide)) (hb.x.mono (by decide))) (il_cons (I_fSub (i := 1) (j := 4) (k := 7) rfl rfl rfl (ha.y.mono (by decide)) (hb.y.mono (by decide))) (il_cons (I_fSub (i := 2) (j := 5) (k := 8) rfl rfl rfl (ha.z.mono (by decide)) (hb.z.mono (by decide))) il_nil)))
    ol_nil (by kernel_rfl) Tryz.func29 (by kernel_rfl) ⟨(row_isL (xs := xeachSubX a b) (ks := [0, 1, 2]) (vs := [a.x, a.y, a.z]) ⟨rfl, rfl, rfl, trivial⟩).2 ia, ⟨(row_isL (xs := xeachSubX a b) (ks := [3, 4, 5]) (vs := [b.x, b.y, b.z]) ⟨rfl, rfl, rfl, trivial⟩).2 ib, ⟨rfl, trivial⟩⟩⟩).mono ?_
  rintro e w' ⟨v, rfl, h1, h2⟩
  exact ⟨v, rfl, (row_isL (xs := xeachSubX a b) (ks := [6, 7, 8]) (vs := [(a.x.sub b.x), (a.y.sub b.y), (a.z.sub b.z)]) ⟨rfl, rfl, rfl, trivial⟩).1 h1, h2⟩
theorem I_eachSub {xs : List Fq} {ys : Rho} {ka : List Nat} {kb : List Nat} {a : Vq} {b : Vq} {kr : List Nat} (aa : AtL xs ka [a.x, a.y, a.z]) (ab : AtL xs kb [b.x, b.y, b.z]) (ar : AtL xs kr [(a.sub b).x, (a.sub b).y, (a.sub b).z]) (ha : a.ok 100000000) (hb : b.ok 100000000) : OkI xs ys ⟨29, [row ka, row kb, .one (.fn 32)], .v (row kr)⟩ :=
  ⟨enters Tryz.func29 rfl rfl, fun B w vs h => by
    match vs, h with
    | [va, vb, vf], h =>
      have ef : vf = fnV 32 := h.2.2.1
      subst ef
      refine (q_eachSub va vb a b w ((row_isL aa).1 h.1) ((row_isL ab).1 h.2.1) ha hb).mono ?_
      rintro e w' ⟨v, rfl, h1, h2⟩
      exact ⟨v, rfl, (row_isL ar).2 h1, h2⟩⟩
/-- Products of the coordinates. -/
def Vq.times (a b : Vq) : Vq := ⟨a.x.mul b.x, a.y.mul b.y, a.z.mul b.z⟩
theorem Vq.ok.times {a b : Vq} {d e : Nat} (h : a.ok d) (k : b.ok e) : (a.times b).ok (d + e) := ⟨h.x.mul k.x, h.y.mul k.y, h.z.mul k.z⟩
def xeachMulX (a : Vq) (b : Vq) : List Fq := [a.x, a.y, a.z, b.x, b.y, b.z, (a.x.mul b.x), (a.y.mul b.y), (a.z.mul b.z)]
theorem q_eachMul (va vb : Value) (a : Vq) (b : Vq) (w : World) (ia : IsVq w va a) (ib : IsVq w vb b) (ha : a.ok 100000000) (hb : b.ok 100000000) :
    Calls Tryz.prog 29 #[va, vb, fnV 34] w fun e w' => RetVq w (a.times b) e w' := by
  refine (calls_runFn (ρ := frs (xeachMulX a b) ++ []) (w := w) (fuel := 300) (args := [row [0, 1, 2], row [3, 4, 5], .one (.fn 34)]) (vs := [va, vb, fnV 34]) (r := .v (row [6, 7, 8]))
    (il_cons (I_fMul (i := 0) (j := 3) (k := 6) rfl rfl rfl (ha.x.mono (by decide)) (hb.x.mono (by decide))) (il_cons (I_fMul (i := 1) (j := 4) (k := 7) rfl rfl rfl (ha.y.mono (by decide)) (hb.y.mono (by decide))) (il_cons (I_fMul (i := 2) (j := 5) (k := 8) rfl rfl rfl (ha.z.mono (by decide)) (hb.z.mono (by decide))) il_nil)))
    ol_nil (by kernel_rfl) Tryz.func29 (by kernel_rfl) ⟨(row_isL (xs := xeachMulX a b) (ks := [0, 1, 2]) (vs := [a.x, a.y, a.z]) ⟨rfl, rfl, rfl, trivial⟩).2 ia, ⟨(row_isL (xs := xeachMulX a b) (ks := [3, 4, 5]) (vs := [b.x, b.y, b.z]) ⟨rfl, rfl, rfl, trivial⟩).2 ib, ⟨rfl, trivial⟩⟩⟩).mono ?_
  rintro e w' ⟨v, rfl, h1, h2⟩
  exact ⟨v, rfl, (row_isL (xs := xeachMulX a b) (ks := [6, 7, 8]) (vs := [(a.x.mul b.x), (a.y.mul b.y), (a.z.mul b.z)]) ⟨rfl, rfl, rfl, trivial⟩).1 h1, h2⟩
theorem I_eachMul {xs : List Fq} {ys : Rho} {ka : List Nat} {kb : List Nat} {a : Vq} {b : Vq} {kr : List Nat} (aa : AtL xs ka [a.x, a.y, a.z]) (ab : AtL xs kb [b.x, b.y, b.z]) (ar : AtL xs kr [(a.times b).x, (a.times b).y, (a.times b).z]) (ha : a.ok 100000000) (hb : b.ok 100000000) : OkI xs ys ⟨29, [row ka, row kb, .one (.fn 34)], .v (row kr)⟩ :=
  ⟨enters Tryz.func29 rfl rfl, fun B w vs h => by
    match vs, h with
    | [va, vb, vf], h =>
      have ef : vf = fnV 34 := h.2.2.1
      subst ef
      refine (q_eachMul va vb a b w ((row_isL aa).1 h.1) ((row_isL ab).1 h.2.1) ha hb).mono ?_
      rintro e w' ⟨v, rfl, h1, h2⟩
      exact ⟨v, rfl, (row_isL ar).2 h1, h2⟩⟩
def xvAddX (a : Vq) (b : Vq) : List Fq := [a.x, a.y, a.z, b.x, b.y, b.z, (a.add b).x, (a.add b).y, (a.add b).z]
theorem q_vAdd (va vb : Value) (a : Vq) (b : Vq) (w : World) (ia : IsVq w va a) (ib : IsVq w vb b) (ha : a.ok 100000000) (hb : b.ok 100000000) :
    Calls Tryz.prog 8 #[va, vb] w fun e w' => RetVq w (a.add b) e w' := by
  refine (calls_runFn (ρ := frs (xvAddX a b) ++ []) (w := w) (fuel := 300) (args := [row [0, 1, 2], row [3, 4, 5]]) (vs := [va, vb]) (r := .v (row [6, 7, 8]))
    (il_cons (I_eachAdd (ka := [0, 1, 2]) (a := a) (kb := [3, 4, 5]) (b := b) (kr := [6, 7, 8]) ⟨rfl, rfl, rfl, trivial⟩ ⟨rfl, rfl, rfl, trivial⟩ ⟨rfl, rfl, rfl, trivial⟩ (ha.mono (by decide)) (hb.mono (by decide))) il_nil)
    ol_nil (by kernel_rfl) Tryz.func8 (by kernel_rfl) ⟨(row_isL (xs := xvAddX a b) (ks := [0, 1, 2]) (vs := [a.x, a.y, a.z]) ⟨rfl, rfl, rfl, trivial⟩).2 ia, ⟨(row_isL (xs := xvAddX a b) (ks := [3, 4, 5]) (vs := [b.x, b.y, b.z]) ⟨rfl, rfl, rfl, trivial⟩).2 ib, trivial⟩⟩).mono ?_
  rintro e w' ⟨v, rfl, h1, h2⟩
  exact ⟨v, rfl, (row_isL (xs := xvAddX a b) (ks := [6, 7, 8]) (vs := [(a.add b).x, (a.add b).y, (a.add b).z]) ⟨rfl, rfl, rfl, trivial⟩).1 h1, h2⟩
theorem I_vAdd {xs : List Fq} {ys : Rho} {ka : List Nat} {kb : List Nat} {a : Vq} {b : Vq} {kr : List Nat} (aa : AtL xs ka [a.x, a.y, a.z]) (ab : AtL xs kb [b.x, b.y, b.z]) (ar : AtL xs kr [(a.add b).x, (a.add b).y, (a.add b).z]) (ha : a.ok 100000000) (hb : b.ok 100000000) : OkI xs ys ⟨8, [row ka, row kb], .v (row kr)⟩ :=
  ⟨enters Tryz.func8 rfl rfl, fun B w vs h => by
    match vs, h with
    | [va, vb], h =>
      refine (q_vAdd va vb a b w ((row_isL aa).1 h.1) ((row_isL ab).1 h.2.1) ha hb).mono ?_
      rintro e w' ⟨v, rfl, h1, h2⟩
      exact ⟨v, rfl, (row_isL ar).2 h1, h2⟩⟩
def xvSubX (a : Vq) (b : Vq) : List Fq := [a.x, a.y, a.z, b.x, b.y, b.z, (a.sub b).x, (a.sub b).y, (a.sub b).z]
theorem q_vSub (va vb : Value) (a : Vq) (b : Vq) (w : World) (ia : IsVq w va a) (ib : IsVq w vb b) (ha : a.ok 100000000) (hb : b.ok 100000000) :
    Calls Tryz.prog 10 #[va, vb] w fun e w' => RetVq w (a.sub b) e w' := by
  refine (calls_runFn (ρ := frs (xvSubX a b) ++ []) (w := w) (fuel := 300) (args := [row [0, 1, 2], row [3, 4, 5]]) (vs := [va, vb]) (r := .v (row [6, 7, 8]))
    (il_cons (I_eachSub (ka := [0, 1, 2]) (a := a) (kb := [3, 4, 5]) (b := b) (kr := [6, 7, 8]) ⟨rfl, rfl, rfl, trivial⟩ ⟨rfl, rfl, rfl, trivial⟩ ⟨rfl, rfl, rfl, trivial⟩ (ha.mono (by decide)) (hb.mono (by decide))) il_nil)
    ol_nil (by kernel_rfl) Tryz.func10 (by kernel_rfl) ⟨(row_isL (xs := xvSubX a b) (ks := [0, 1, 2]) (vs := [a.x, a.y, a.z]) ⟨rfl, rfl, rfl, trivial⟩).2 ia, ⟨(row_isL (xs := xvSubX a b) (ks := [3, 4, 5]) (vs := [b.x, b.y, b.z]) ⟨rfl, rfl, rfl, trivial⟩).2 ib, trivial⟩⟩).mono ?_
  rintro e w' ⟨v, rfl, h1, h2⟩
  exact ⟨v, rfl, (row_isL (xs := xvSubX a b) (ks := [6, 7, 8]) (vs := [(a.sub b).x, (a.sub b).y, (a.sub b).z]) ⟨rfl, rfl, rfl, trivial⟩).1 h1, h2⟩
theorem I_vSub {xs : List Fq} {ys : Rho} {ka : List Nat} {kb : List Nat} {a : Vq} {b : Vq} {kr : List Nat} (aa : AtL xs ka [a.x, a.y, a.z]) (ab : AtL xs kb [b.x, b.y, b.z]) (ar : AtL xs kr [(a.sub b).x, (a.sub b).y, (a.sub b).z]) (ha : a.ok 100000000) (hb : b.ok 100000000) : OkI xs ys ⟨10, [row ka, row kb], .v (row kr)⟩ :=
  ⟨enters Tryz.func10 rfl rfl, fun B w vs h => by
    match vs, h with
    | [va, vb], h =>
      refine (q_vSub va vb a b w ((row_isL aa).1 h.1) ((row_isL ab).1 h.2.1) ha hb).mono ?_
      rintro e w' ⟨v, rfl, h1, h2⟩
      exact ⟨v, rfl, (row_isL ar).2 h1, h2⟩⟩
def xvScaleX (a : Vq) (k : Fq) : List Fq := [a.x, a.y, a.z, k, (a.times (Vq.mk k k k)).x, (a.times (Vq.mk k k k)).y, (a.times (Vq.mk k k k)).z]
theorem q_vScale (va vk : Value) (a : Vq) (k : Fq) (w : World) (ia : IsVq w va a) (ik : IsQ w vk k) (ha : a.ok 100000000) (hk : k.ok 100000000) :
    Calls Tryz.prog 12 #[va, vk] w fun e w' => RetVq w (a.scale k) e w' := by
  refine (calls_runFn (ρ := frs (xvScaleX a k) ++ []) (w := w) (fuel := 300) (args := [row [0, 1, 2], fr 3]) (vs := [va, vk]) (r := .v (row [4, 5, 6]))
    (il_cons (I_eachMul (ka := [0, 1, 2]) (a := a) (kb := [3, 3, 3]) (b := (Vq.mk k k k)) (kr := [4, 5, 6]) ⟨rfl, rfl, rfl, trivial⟩ ⟨rfl, rfl, rfl, trivial⟩ ⟨rfl, rfl, rfl, trivial⟩ (ha.mono (by decide)) (⟨hk.mono (by decide), hk.mono (by decide), hk.mono (by decide)⟩ : Vq.ok 100000000 (Vq.mk k k k))) il_nil)
    ol_nil (by kernel_rfl) Tryz.func12 (by kernel_rfl) ⟨(row_isL (xs := xvScaleX a k) (ks := [0, 1, 2]) (vs := [a.x, a.y, a.z]) ⟨rfl, rfl, rfl, trivial⟩).2 ia, ⟨(fr_isQ (xs := xvScaleX a k) (k := 3) rfl).2 ik, trivial⟩⟩).mono ?_
  rintro e w' ⟨v, rfl, h1, h2⟩
  exact ⟨v, rfl, (row_isL (xs := xvScaleX a k) (ks := [4, 5, 6]) (vs := [(a.times (Vq.mk k k k)).x, (a.times (Vq.mk k k k)).y, (a.times (Vq.mk k k k)).z]) ⟨rfl, rfl, rfl, trivial⟩).1 h1, h2⟩
theorem I_vScale {xs : List Fq} {ys : Rho} {ka : List Nat} {ik : Nat} {a : Vq} {k : Fq} {kr : List Nat} (aa : AtL xs ka [a.x, a.y, a.z]) (ak : xs[ik]? = some k) (ar : AtL xs kr [(a.scale k).x, (a.scale k).y, (a.scale k).z]) (ha : a.ok 100000000) (hk : k.ok 100000000) : OkI xs ys ⟨12, [row ka, fr ik], .v (row kr)⟩ :=
  ⟨enters Tryz.func12 rfl rfl, fun B w vs h => by
    match vs, h with
    | [va, vk], h =>
      refine (q_vScale va vk a k w ((row_isL aa).1 h.1) ((fr_isQ ak).1 h.2.1) ha hk).mono ?_
      rintro e w' ⟨v, rfl, h1, h2⟩
      exact ⟨v, rfl, (row_isL ar).2 h1, h2⟩⟩
def xvDotX (a : Vq) (b : Vq) : List Fq := [a.x, a.y, a.z, b.x, b.y, b.z, (a.x.mul b.x), (a.y.mul b.y), (a.z.mul b.z), ((a.y.mul b.y).add (a.z.mul b.z)), ((a.x.mul b.x).add ((a.y.mul b.y).add (a.z.mul b.z)))]
theorem q_vDot (va vb : Value) (a : Vq) (b : Vq) (w : World) (ia : IsVq w va a) (ib : IsVq w vb b) (ha : a.ok 100000000) (hb : b.ok 100000000) :
    Calls Tryz.prog 15 #[va, vb] w fun e w' => RetQ w (a.dot b) e w' := by
  refine (calls_runFn (ρ := frs (xvDotX a b) ++ []) (w := w) (fuel := 300) (args := [row [0, 1, 2], row [3, 4, 5]]) (vs := [va, vb]) (r := .v (fr 10))
    (il_cons (I_times (ks := [0, 3]) (k := 6) ⟨rfl, rfl, trivial⟩ rfl (ha.x.mono (by decide)) (hb.x.mono (by decide))) (il_cons (I_times (ks := [1, 4]) (k := 7) ⟨rfl, rfl, trivial⟩ rfl (ha.y.mono (by decide)) (hb.y.mono (by decide))) (il_cons (I_times (ks := [2, 5]) (k := 8) ⟨rfl, rfl, trivial⟩ rfl (ha.z.mono (by decide)) (hb.z.mono (by decide))) (il_cons (I_fAdd (i := 7) (j := 8) (k := 9) rfl rfl rfl ((ha.y.mul hb.y).mono (by decide)) ((ha.z.mul hb.z).mono (by decide))) (il_cons (I_fAdd (i := 6) (j := 9) (k := 10) rfl rfl rfl ((ha.x.mul hb.x).mono (by decide)) (((ha.y.mul hb.y).add (ha.z.mul hb.z)).mono (by decide))) il_nil)))))
    ol_nil (by kernel_rfl) Tryz.func15 (by kernel_rfl) ⟨(row_isL (xs := xvDotX a b) (ks := [0, 1, 2]) (vs := [a.x, a.y, a.z]) ⟨rfl, rfl, rfl, trivial⟩).2 ia, ⟨(row_isL (xs := xvDotX a b) (ks := [3, 4, 5]) (vs := [b.x, b.y, b.z]) ⟨rfl, rfl, rfl, trivial⟩).2 ib, trivial⟩⟩).mono ?_
  rintro e w' ⟨v, rfl, h1, h2⟩
  exact ⟨v, rfl, (fr_isQ (xs := xvDotX a b) (k := 10) rfl).1 h1, h2⟩
theorem I_vDot {xs : List Fq} {ys : Rho} {ka : List Nat} {kb : List Nat} {a : Vq} {b : Vq} {ir : Nat} (aa : AtL xs ka [a.x, a.y, a.z]) (ab : AtL xs kb [b.x, b.y, b.z]) (ar : xs[ir]? = some (a.dot b)) (ha : a.ok 100000000) (hb : b.ok 100000000) : OkI xs ys ⟨15, [row ka, row kb], .v (fr ir)⟩ :=
  ⟨enters Tryz.func15 rfl rfl, fun B w vs h => by
    match vs, h with
    | [va, vb], h =>
      refine (q_vDot va vb a b w ((row_isL aa).1 h.1) ((row_isL ab).1 h.2.1) ha hb).mono ?_
      rintro e w' ⟨v, rfl, h1, h2⟩
      exact ⟨v, rfl, (fr_isQ ar).2 h1, h2⟩⟩
def xvCrossX (a : Vq) (b : Vq) : List Fq := [a.x, a.y, a.z, b.x, b.y, b.z, (a.y.mul b.z), (a.z.mul b.y), ((a.y.mul b.z).sub (a.z.mul b.y)), (a.z.mul b.x), (a.x.mul b.z), ((a.z.mul b.x).sub (a.x.mul b.z)), (a.x.mul b.y), (a.y.mul b.x), ((a.x.mul b.y).sub (a.y.mul b.x))]
theorem q_vCross (va vb : Value) (a : Vq) (b : Vq) (w : World) (ia : IsVq w va a) (ib : IsVq w vb b) (ha : a.ok 100000000) (hb : b.ok 100000000) :
    Calls Tryz.prog 17 #[va, vb] w fun e w' => RetVq w (a.cross b) e w' := by
  refine (calls_runFn (ρ := frs (xvCrossX a b) ++ []) (w := w) (fuel := 300) (args := [row [0, 1, 2], row [3, 4, 5]]) (vs := [va, vb]) (r := .v (row [8, 11, 14]))
    (il_cons (I_times (ks := [1, 5]) (k := 6) ⟨rfl, rfl, trivial⟩ rfl (ha.y.mono (by decide)) (hb.z.mono (by decide))) (il_cons (I_times (ks := [2, 4]) (k := 7) ⟨rfl, rfl, trivial⟩ rfl (ha.z.mono (by decide)) (hb.y.mono (by decide))) (il_cons (I_less (ks := [6, 7]) (k := 8) ⟨rfl, rfl, trivial⟩ rfl ((ha.y.mul hb.z).mono (by decide)) ((ha.z.mul hb.y).mono (by decide))) (il_cons (I_times (ks := [2, 3]) (k := 9) ⟨rfl, rfl, trivial⟩ rfl (ha.z.mono (by decide)) (hb.x.mono (by decide))) (il_cons (I_times (ks := [0, 5]) (k := 10) ⟨rfl, rfl, trivial⟩ rfl (ha.x.mono (by decide)) (hb.z.mono (by decide))) (il_cons (I_less (ks := [9, 10]) (k := 11) ⟨rfl, rfl, trivial⟩ rfl ((ha.z.mul hb.x).mono (by decide)) ((ha.x.mul hb.z).mono (by decide))) (il_cons (I_times (ks := [0, 4]) (k := 12) ⟨rfl, rfl, trivial⟩ rfl (ha.x.mono (by decide)) (hb.y.mono (by decide))) (il_cons (I_times (ks := [1, 3]) (k := 13) ⟨rfl, rfl, trivial⟩ rfl (ha.y.mono (by decide)) (hb.x.mono (by decide))) (il_cons (I_less (ks := [12, 13]) (k := 14) ⟨rfl, rfl, trivial⟩ rfl ((ha.x.mul hb.y).mono (by decide)) ((ha.y.mul hb.x).mono (by decide))) il_nil)))))))))
    ol_nil (by kernel_rfl) Tryz.func17 (by kernel_rfl) ⟨(row_isL (xs := xvCrossX a b) (ks := [0, 1, 2]) (vs := [a.x, a.y, a.z]) ⟨rfl, rfl, rfl, trivial⟩).2 ia, ⟨(row_isL (xs := xvCrossX a b) (ks := [3, 4, 5]) (vs := [b.x, b.y, b.z]) ⟨rfl, rfl, rfl, trivial⟩).2 ib, trivial⟩⟩).mono ?_
  rintro e w' ⟨v, rfl, h1, h2⟩
  exact ⟨v, rfl, (row_isL (xs := xvCrossX a b) (ks := [8, 11, 14]) (vs := [((a.y.mul b.z).sub (a.z.mul b.y)), ((a.z.mul b.x).sub (a.x.mul b.z)), ((a.x.mul b.y).sub (a.y.mul b.x))]) ⟨rfl, rfl, rfl, trivial⟩).1 h1, h2⟩
theorem I_vCross {xs : List Fq} {ys : Rho} {ka : List Nat} {kb : List Nat} {a : Vq} {b : Vq} {kr : List Nat} (aa : AtL xs ka [a.x, a.y, a.z]) (ab : AtL xs kb [b.x, b.y, b.z]) (ar : AtL xs kr [(a.cross b).x, (a.cross b).y, (a.cross b).z]) (ha : a.ok 100000000) (hb : b.ok 100000000) : OkI xs ys ⟨17, [row ka, row kb], .v (row kr)⟩ :=
  ⟨enters Tryz.func17 rfl rfl, fun B w vs h => by
    match vs, h with
    | [va, vb], h =>
      refine (q_vCross va vb a b w ((row_isL aa).1 h.1) ((row_isL ab).1 h.2.1) ha hb).mono ?_
      rintro e w' ⟨v, rfl, h1, h2⟩
      exact ⟨v, rfl, (row_isL ar).2 h1, h2⟩⟩
end Go.Proofs.YtfhinmdhjlmikaaGreatDoor
namespace Go.Proofs.YtfhinmdhjlmikaaGreatDoor
set_option linter.unusedSimpArgs false
set_option linter.unusedVariables false
set_option maxRecDepth 100000
open Go.RowKit
/-- Agreement of all parts. -/
def Vq.same (a b : Vq) : Bool := a.x.same b.x && (a.y.same b.y && a.z.same b.z)
def Qq.same (p q : Qq) : Bool := p.w.same q.w && (p.x.same q.x && (p.y.same q.y && p.z.same q.z))
theorem Vq.same_iff {a b : Vq} : a.same b = true ↔ a = b := by
  obtain ⟨a1, a2, a3⟩ := a; obtain ⟨b1, b2, b3⟩ := b
  simp [Vq.same, Fq.same_iff]
theorem Qq.same_iff {a b : Qq} : a.same b = true ↔ a = b := by
  obtain ⟨a1, a2, a3, a4⟩ := a; obtain ⟨b1, b2, b3, b4⟩ := b
  simp [Qq.same, Fq.same_iff]
theorem same_ne {x y : Fq} (h : x ≠ y) : x.same y = false := Bool.eq_false_iff.2 (mt Fq.same_iff.1 h)
end Go.Proofs.YtfhinmdhjlmikaaGreatDoor
namespace Go.Proofs.YtfhinmdhjlmikaaGreatDoor
set_option linter.unusedSimpArgs false
set_option linter.unusedVariables false
set_option maxRecDepth 100000
open Go.RowKit
/-- Rows of fractions whose numbers may have leading zeros. -/
def leafsN : List Nat → List Leaf
  | [] => []
  | n :: ns => .ref n :: .ref (n + 1) :: .ref (n + 2) :: leafsN ns
def rowN (ns : List Nat) : SV := .agg (leafsN ns)
def AtR (ρ : Rho) : List Nat → List Rq → Prop
  | [], [] => True
  | n :: ns, r :: rs => (ρ[n]? = some (.val (.bool r.s)) ∧ ρ[n + 1]? = some (.dig r.L r.p) ∧ ρ[n + 2]? = some (.dig r.N r.q)) ∧ AtR ρ ns rs
  | _, _ => False
/-- A fraction in valid form. -/
def Rq.vld (r : Rq) : Bool := decide (nl r.p = r.L ∧ nl r.q = r.N) && (Fq.mk r.s r.p r.q).valid
section
variable {ρ : Rho} {xs : List Fq} {ys : Rho} {n m k : Nat} {u v : Int} {l : Leaf} {t : TypeId} {B : Blk} {w : World} {r : Rq}
theorem leafB {s : Bool} {x : Value} (h : ρ[n]? = some (.val (.bool s))) : (Leaf.ref n).holds ρ B w x ↔ x = .bool s := by
  constructor
  · rintro ⟨t, h1, h2⟩
    rw [h] at h1; injection h1 with h1; subst h1; exact h2.1
  · rintro rfl
    exact ⟨_, h, rfl, flat_bool⟩
theorem leafD {L N : Nat} {x : Value} (h : ρ[n]? = some (.dig L N)) : (Leaf.ref n).holds ρ B w x ↔ IsR w (.agg #[x]) L N := by
  constructor
  · rintro ⟨t, h1, h2⟩
    rw [h] at h1; injection h1 with h1; subst h1; exact h2
  · intro h2; exact ⟨_, h, h2⟩
theorem rowN_holds : ∀ {ns : List Nat} {rs : List Rq} {cs : List Value}, AtR ρ ns rs → (LeavesH ρ B w (leafsN ns) cs ↔ CellsR w rs cs)
  | [], [], cs, _ => by
    constructor
    · intro h; match cs, h with | [], _ => rfl
    · intro h; have h : cs = [] := h; subst h; trivial
  | n :: ns, r :: rs, cs, h => by
    obtain ⟨⟨h1, h2, h3⟩, h4⟩ := h
    have ih := fun cs => rowN_holds (ns := ns) (rs := rs) (cs := cs) h4
    constructor
    · intro hl
      match cs, hl with
      | u1 :: u2 :: u3 :: cs', hl =>
        obtain ⟨g1, g2, g3, g4⟩ := hl
        have e1 := (leafB h1).1 g1
        have e2 := (leafD h2).1 g2
        have e3 := (leafD h3).1 g3
        obtain ⟨a, c, rfl⟩ := isR_slice e2
        obtain ⟨b, d, rfl⟩ := isR_slice e3
        subst e1
        exact ⟨a, c, b, d, cs', rfl, e2, e3, (ih cs').1 g4⟩
      | [], hl => exact hl.elim
      | [_], hl => exact hl.2.elim
      | [_, _], hl => exact hl.2.2.elim
    · rintro ⟨a, c, b, d, cs', rfl, i1, i2, i3⟩
      exact ⟨(leafB h1).2 rfl, (leafD h2).2 i1, (leafD h3).2 i2, (ih cs').2 i3⟩
  | [], _ :: _, _, h => h.elim
  | _ :: _, [], _, h => h.elim
theorem rowN_isL {ns : List Nat} {rs : List Rq} {x : Value} (h : AtR ρ ns rs) : (rowN ns).holds ρ B w x ↔ IsL w x rs := by
  constructor
  · rintro ⟨cs, rfl, h1⟩; exact ⟨cs, rfl, (rowN_holds h).1 h1⟩
  · rintro ⟨cs, rfl, h1⟩; exact ⟨cs, rfl, (rowN_holds h).2 h1⟩
theorem isL_FR {x : Value} (h : IsL w x [r]) : IsFR w x r.s r.L r.p r.N r.q := by
  obtain ⟨cs, rfl, a, c, b, d, cs', rfl, i1, i2, e⟩ := h
  have e : cs' = [] := e
  subst e
  exact ⟨a, c, b, d, rfl, i1, i2⟩
theorem vld_raw (h : r.vld = true) : r = (Fq.mk r.s r.p r.q).raw ∧ (Fq.mk r.s r.p r.q).valid = true := by
  unfold Rq.vld at h
  simp only [Bool.and_eq_true, decide_eq_true_eq] at h
  obtain ⟨⟨h1, h2⟩, h3⟩ := h
  refine ⟨?_, h3⟩
  obtain ⟨s, L, p, N, q⟩ := r
  simp only at h1 h2
  subst h1; subst h2; rfl
theorem q_rValidX (x : Value) (w : World) (h : IsL w x [r]) (hL : r.L ≤ 1000000) (hN : r.N ≤ 1000000) : Calls Tryz.prog 23 #[x] w fun e w' => RetV w (.bool r.vld) e w' := by
  have hf := isL_FR h
  by_cases hc : nl r.p = r.L ∧ nl r.q = r.N
  · have e : r.vld = (Fq.mk r.s r.p r.q).valid := by unfold Rq.vld; simp [hc]
    rw [e]
    exact q_rValid x ⟨r.s, r.p, r.q⟩ w (hf.isQ hc.1 hc.2) (by show nl r.p ≤ _; omega) (by show nl r.q ≤ _; omega)
  · have e : r.vld = false := by unfold Rq.vld; simp [hc]
    rw [e]
    exact q_rValidR x r.s r.L r.p r.N r.q w hf hL hN hc
theorem instX {f : FuncId} {b d : Bool} (hen : Ent' f) (hc : ∀ x w, IsL w x [r] → Calls Tryz.prog f #[x] w (fun e w' => RetV w (.bool b) e w')) (hr : AtR (frs xs ++ ys) [n] [r]) (h : b = d) : OkI xs ys ⟨f, [rowN [n]], .v (.one (.b d))⟩ :=
  ⟨hen, fun B w vs hv => by
    match vs, hv with
    | [va], hv =>
      refine (hc va w ((rowN_isL hr).1 hv.1)).mono ?_
      rintro e w' ⟨rfl, h2⟩
      exact ⟨_, rfl, by subst h; rfl, h2⟩⟩
theorem I_rValidX {d : Bool} (hr : AtR (frs xs ++ ys) [n] [r]) (h : r.vld = d) (hL : r.L ≤ 1000000) (hN : r.N ≤ 1000000) : OkI xs ys ⟨23, [rowN [n]], .v (.one (.b d))⟩ :=
  instX (enters Tryz.func23 rfl rfl) (fun x w hx => q_rValidX x w hx hL hN) hr h
/-- Lengths and sums of them. -/
theorem o_len {L N : Nat} (ht : ∃ e, Tryz.prog.underlying t = some (.slice e)) (hn : ρ[n]? = some (.dig L N)) (hm : ρ[m]? = some (.val (.int .i64 (L : Int)))) : (OIns.mk (.len t) [.one (.ref n)] (.one (.ref m))).Ok Tryz.prog ρ := fun B w vs hv => by
  match vs, hv with
  | [v1], hv =>
    obtain ⟨a, c, rfl⟩ := isR_slice ((leafD (B := B) (w := w) hn).1 hv.1)
    obtain ⟨e, he⟩ := ht
    refine ⟨.int .i64 (L : Int), lr hm B w, fun ts ty h0 => ?_⟩
    simp [Builtin.len_, h0, Sem.run_bind, run_underlying he, Result.andThen, goInt]
theorem o_leq {c : Int} {b : Bool} (hn : ρ[n]? = some (.val (.int .i64 u))) (h : decide (u ≤ c) = b) : (OIns.mk (.bin .leq t) [.one (.ref n), .one (.i .i64 c)] (.one (.b b))).Ok Tryz.prog ρ := fun B w vs hv => by
  match vs, hv with
  | [v1, v2], hv =>
    obtain ⟨⟨s, h1, h2⟩, h3, _⟩ := hv
    rw [hn] at h1; injection h1 with h1; subst h1
    obtain ⟨rfl, _⟩ := h2
    have e : v2 = .int .i64 c := h3
    subst e
    exact ⟨.bool b, rfl, fun xo yo => by rw [← h]; simp [eqGuard, binOp, Op.intCmp, Sem.run_bind, Result.andThen]⟩
end
theorem dle {d : Nat} (h : d ≤ 4) : decide ((d : Int) ≤ 4) = true := decide_eq_true (by omega)
theorem dcast {d : Nat} {b : Bool} (h : decide (d ≤ 4) = b) : decide ((d : Int) ≤ 4) = b := by rw [← h]; exact decide_eq_decide.2 (by omega)
theorem vld_nl {r : Rq} (h : r.vld = true) : nl r.p = r.L ∧ nl r.q = r.N := by
  unfold Rq.vld at h
  simp only [Bool.and_eq_true, decide_eq_true_eq] at h
  exact h.1
/-- No more than four digits; and valid. -/
def Rq.sh (r : Rq) : Bool := decide (r.L ≤ 4) && decide (r.N ≤ 4)
def Rq.sm (r : Rq) : Bool := r.sh && r.vld
def fitB (a b c : Rq) : Bool := a.sm && (b.sm && c.sm)
theorem sh_L {r : Rq} (h : r.sh = true) : r.L ≤ 1000000 := by simp only [Rq.sh, Bool.and_eq_true, decide_eq_true_eq] at h; omega
theorem sh_N {r : Rq} (h : r.sh = true) : r.N ≤ 1000000 := by simp only [Rq.sh, Bool.and_eq_true, decide_eq_true_eq] at h; omega
theorem sm_q {r : Rq} (h : r.sm = true) : ∃ x : Fq, r = x.raw ∧ x.valid = true ∧ x.ok 4 := by
  simp only [Rq.sm, Rq.sh, Bool.and_eq_true, decide_eq_true_eq] at h
  have h1 := vld_nl h.2
  have h2 := vld_raw h.2
  exact ⟨_, h2.1, h2.2, ⟨by show nl r.p ≤ 4; omega, by show nl r.q ≤ 4; omega, Fq.valid.n h2.2⟩⟩
theorem fit_v {a b c : Rq} (h : fitB a b c = true) : ∃ x : Vq, a = x.x.raw ∧ b = x.y.raw ∧ c = x.z.raw ∧ x.good ∧ x.ok 4 := by
  simp only [fitB, Bool.and_eq_true] at h
  obtain ⟨x, e1, v1, k1⟩ := sm_q h.1
  obtain ⟨y, e2, v2, k2⟩ := sm_q h.2.1
  obtain ⟨z, e3, v3, k3⟩ := sm_q h.2.2
  exact ⟨⟨x, y, z⟩, e1, e2, e3, ⟨v1, v2, v3⟩, ⟨k1, k2, k3⟩⟩
end Go.Proofs.YtfhinmdhjlmikaaGreatDoor
