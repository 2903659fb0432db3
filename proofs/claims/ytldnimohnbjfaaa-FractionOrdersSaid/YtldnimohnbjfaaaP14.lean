/- The plain law of fractions: what they stand for (rational numbers), and the laws of a field, of the order, of Lerp and of Floor. The law FractionFloors. What an argument of type api.Nat is: a row of digits. What an argument of type api.Frac is: a sign and two rows of digits. -/
import Derived.Test.YtldnimohnbjfaaaP13
import Derived.WalkKit
import Derived.ProofKit
import Derived.OpenShut
import Derived.ShutString
import Derived.ChangeOld
import Derived.Below
import Derived.Deep.Strs
namespace Go.Proofs.Ytldnimohnbjfaaa
set_option linter.unusedSimpArgs false
set_option linter.unusedVariables false
set_option maxRecDepth 100000
open Go Go.Proofs
/-- The number that a fraction stands for. -/
def Fq.sg (s : Bool) (m : Nat) : Int := if s then -(m : Int) else m
def Fq.v (x : Fq) : Rat := mkRat (Fq.sg x.s x.p) x.q
theorem low_v {s : Bool} {m n : Nat} (h : n ≠ 0) : (Fq.low s m n).v = mkRat (Fq.sg s m) n := by
  unfold Fq.v Fq.low
  simp only
  have hg : 0 < Nat.gcd m n := Nat.gcd_pos_of_pos_right _ (Nat.pos_of_ne_zero h)
  have h1 : Nat.gcd m n * lowP m n = m := Nat.mul_div_cancel' (Nat.gcd_dvd_left _ _)
  have h2 : Nat.gcd m n * lowQ m n = n := Nat.mul_div_cancel' (Nat.gcd_dvd_right _ _)
  have h3 : lowQ m n ≠ 0 := by intro h3; rw [h3, Nat.mul_zero] at h2; exact h h2.symm
  rw [Rat.mkRat_eq_iff h3 h]
  have hs : Fq.sg (lowS s m) (lowP m n) = Fq.sg s (lowP m n) := by
    unfold lowS Fq.sg
    by_cases hm : m = 0
    · subst hm; simp [lowP]
    · simp [hm]
  rw [hs]
  generalize hP : lowP m n = P at *
  generalize hQ : lowQ m n = R at *
  generalize Nat.gcd m n = g at *
  subst h1; subst h2
  unfold Fq.sg
  cases s <;> simp only [Bool.false_eq_true, if_true, if_false] <;> grind
theorem low_valid {s : Bool} {m n : Nat} (h : n ≠ 0) : (Fq.low s m n).valid = true := by
  unfold Fq.valid
  have hg : 0 < Nat.gcd m n := Nat.gcd_pos_of_pos_right _ (Nat.pos_of_ne_zero h)
  have h1 : Nat.gcd m n * lowP m n = m := Nat.mul_div_cancel' (Nat.gcd_dvd_left _ _)
  have h2 : Nat.gcd m n * lowQ m n = n := Nat.mul_div_cancel' (Nat.gcd_dvd_right _ _)
  refine decide_eq_true ⟨?_, ?_, ?_⟩
  · show lowQ m n ≠ 0
    intro h3; rw [h3, Nat.mul_zero] at h2; exact h h2.symm
  · show ¬(lowS s m = true ∧ lowP m n = 0)
    rintro ⟨h3, h4⟩
    rw [h4, Nat.mul_zero] at h1
    rw [← h1] at h3; simp [lowS] at h3
  · exact Nat.coprime_div_gcd_div_gcd hg
theorem Fq.valid.n {x : Fq} (h : x.valid = true) : x.q ≠ 0 := (of_decide_eq_true h).1
theorem Fq.valid.s {x : Fq} (h : x.valid = true) : ¬(x.s = true ∧ x.p = 0) := (of_decide_eq_true h).2.1
theorem Fq.valid.g {x : Fq} (h : x.valid = true) : Nat.gcd x.p x.q = 1 := (of_decide_eq_true h).2.2
theorem sg_abs (s : Bool) (m : Nat) : (Fq.sg s m).natAbs = m := by unfold Fq.sg; cases s <;> simp
theorem sg_neg {s : Bool} {m : Nat} (h : ¬(s = true ∧ m = 0)) : decide (Fq.sg s m < 0) = s := by
  unfold Fq.sg
  cases s
  · simp
  · simp at h ⊢; omega
theorem v_num {x : Fq} (h : x.valid = true) : x.v.num = Fq.sg x.s x.p ∧ x.v.den = x.q := by
  have hn := Fq.valid.n h
  have hc : (Fq.sg x.s x.p).natAbs.Coprime x.q := by rw [sg_abs]; exact Fq.valid.g h
  have e : x.v = Rat.mk' (Fq.sg x.s x.p) x.q hn hc := (Rat.mk_eq_mkRat _ _ hn hc).symm
  rw [e]; exact ⟨rfl, rfl⟩
/-- Valid fractions of one value are one. -/
theorem v_inj {x y : Fq} (hx : x.valid = true) (hy : y.valid = true) (h : x.v = y.v) : x = y := by
  obtain ⟨a1, a2⟩ := v_num hx
  obtain ⟨b1, b2⟩ := v_num hy
  rw [h] at a1 a2
  have e1 : Fq.sg x.s x.p = Fq.sg y.s y.p := a1.symm.trans b1
  have ep : x.p = y.p := by rw [← sg_abs x.s x.p, e1, sg_abs]
  have es : x.s = y.s := by rw [← sg_neg (Fq.valid.s hx), e1, sg_neg (Fq.valid.s hy)]
  have eq : x.q = y.q := a2.symm.trans b2
  cases x; cases y; simp only at *; subst ep; subst es; subst eq; rfl
theorem sg_add (s s' : Bool) (X Y : Nat) : Fq.sg (addG s s' X Y) (addM s s' X Y) = Fq.sg s X + Fq.sg s' Y := by
  unfold Fq.sg addG addM
  by_cases h : s = s'
  · subst h; simp only [if_true]; cases s <;> simp <;> omega
  · simp only [h, if_false]
    by_cases hl : Y ≤ X
    · simp only [hl, if_true]; cases s <;> cases s' <;> simp at h ⊢ <;> omega
    · simp only [hl, if_false]; cases s <;> cases s' <;> simp at h ⊢ <;> omega
theorem sg_mul (s s' : Bool) (X Y : Nat) : Fq.sg (s != s') (X * Y) = Fq.sg s X * Fq.sg s' Y := by
  unfold Fq.sg
  cases s <;> cases s' <;> simp <;> grind
theorem sg_mulN (s : Bool) (X Y : Nat) : Fq.sg s (X * Y) = Fq.sg s X * (Y : Int) := by
  unfold Fq.sg
  cases s <;> simp <;> grind
theorem v_add {x y : Fq} (hx : x.q ≠ 0) (hy : y.q ≠ 0) : (x.add y).v = x.v + y.v := by
  unfold Fq.add
  rw [low_v (Nat.mul_ne_zero hx hy), sg_add, sg_mulN, sg_mulN]
  unfold Fq.v
  rw [Rat.mkRat_add_mkRat _ _ hx hy]
theorem v_mul {x y : Fq} (hx : x.q ≠ 0) (hy : y.q ≠ 0) : (x.mul y).v = x.v * y.v := by
  unfold Fq.mul
  rw [low_v (Nat.mul_ne_zero hx hy), sg_mul]
  unfold Fq.v
  rw [Rat.mkRat_mul_mkRat]
theorem v_neg {x : Fq} : x.neg.v = -x.v := by
  unfold Fq.neg Fq.v
  simp only
  rw [Rat.neg_mkRat]
  congr 1
  unfold Fq.sg lowS
  by_cases h : x.p = 0
  · rw [h]; simp
  · simp only [h, decide_false, Bool.not_false, Bool.and_true]; cases x.s <;> simp
theorem neg_valid {x : Fq} (h : x.valid = true) : x.neg.valid = true := by
  have h1 := Fq.valid.n h
  have h2 := Fq.valid.g h
  refine decide_eq_true ⟨h1, ?_, h2⟩
  show ¬(lowS (!x.s) x.p = true ∧ x.p = 0)
  rintro ⟨h1, h2⟩; rw [h2] at h1; simp [lowS] at h1
theorem v_sub {x y : Fq} (hx : x.q ≠ 0) (hy : y.q ≠ 0) : (x.sub y).v = x.v - y.v := by
  unfold Fq.sub
  rw [v_add hx (show y.neg.q ≠ 0 from hy), v_neg, Rat.sub_eq_add_neg]
theorem v_eq0 {x : Fq} (hx : x.q ≠ 0) : x.v = 0 ↔ x.p = 0 := by
  unfold Fq.v
  rw [Rat.mkRat_eq_zero hx]
  have := sg_abs x.s x.p
  constructor <;> intro h
  · rw [h] at this; exact this.symm
  · unfold Fq.sg; rw [h]; simp
theorem sgn_cases {x : Fq} (hx : x.valid = true) : (x.v < 0 ∧ x.sgn = -1) ∨ (x.v = 0 ∧ x.sgn = 0) ∨ (0 < x.v ∧ x.sgn = 1) := by
  have hn := (v_num hx).1
  have h0 := v_eq0 (Fq.valid.n hx)
  have hs := Fq.valid.s hx
  by_cases hp : x.p = 0
  · exact Or.inr (Or.inl ⟨h0.2 hp, by unfold Fq.sgn; rw [if_pos hp]⟩)
  · have hne : x.v ≠ 0 := fun h => hp (h0.1 h)
    rcases Bool.eq_false_or_eq_true x.s with h | h
    · refine Or.inl ⟨?_, by unfold Fq.sgn; rw [if_neg hp, if_pos h]⟩
      have h1 : ¬ (0 ≤ x.v) := by rw [← Rat.num_nonneg, hn, h]; unfold Fq.sg; simp; omega
      exact Rat.not_le.1 h1
    · refine Or.inr (Or.inr ⟨?_, by unfold Fq.sgn; rw [if_neg hp, h]; rfl⟩)
      have h1 : 0 ≤ x.v := by rw [← Rat.num_nonneg, hn, h]; unfold Fq.sg; simp
      grind
theorem add_valid {x y : Fq} (hx : x.valid = true) (hy : y.valid = true) : (x.add y).valid = true := low_valid (Nat.mul_ne_zero (Fq.valid.n hx) (Fq.valid.n hy))
theorem mul_valid {x y : Fq} (hx : x.valid = true) (hy : y.valid = true) : (x.mul y).valid = true := low_valid (Nat.mul_ne_zero (Fq.valid.n hx) (Fq.valid.n hy))
theorem sub_valid {x y : Fq} (hx : x.valid = true) (hy : y.valid = true) : (x.sub y).valid = true := add_valid hx (neg_valid hy)
theorem v_a {x y : Fq} (hx : x.valid = true) (hy : y.valid = true) : (x.add y).v = x.v + y.v := v_add (Fq.valid.n hx) (Fq.valid.n hy)
theorem v_m {x y : Fq} (hx : x.valid = true) (hy : y.valid = true) : (x.mul y).v = x.v * y.v := v_mul (Fq.valid.n hx) (Fq.valid.n hy)
theorem v_s {x y : Fq} (hx : x.valid = true) (hy : y.valid = true) : (x.sub y).v = x.v - y.v := v_sub (Fq.valid.n hx) (Fq.valid.n hy)
theorem cmp_cases {x y : Fq} (hx : x.valid = true) (hy : y.valid = true) : (x.v < y.v ∧ x.cmp y = -1) ∨ (x.v = y.v ∧ x.cmp y = 0) ∨ (y.v < x.v ∧ x.cmp y = 1) := by
  unfold Fq.cmp
  rcases sgn_cases (sub_valid hx hy) with ⟨h1, h2⟩ | ⟨h1, h2⟩ | ⟨h1, h2⟩ <;> rw [v_s hx hy] at h1
  · exact Or.inl ⟨by grind, h2⟩
  · exact Or.inr (Or.inl ⟨by grind, h2⟩)
  · exact Or.inr (Or.inr ⟨by grind, h2⟩)
section
variable {a b c t : Fq} (ha : a.valid = true) (hb : b.valid = true) (hc : c.valid = true) (ht : t.valid = true)
include ha hb
include hc
theorem o_trans (h1 : a.cmp b ≤ 0) (h2 : b.cmp c ≤ 0) : ¬ (0 < a.cmp c) := by
  rcases cmp_cases ha hb with ⟨p1, p2⟩ | ⟨p1, p2⟩ | ⟨p1, p2⟩ <;> rcases cmp_cases hb hc with ⟨q1, q2⟩ | ⟨q1, q2⟩ | ⟨q1, q2⟩ <;> rcases cmp_cases ha hc with ⟨r1, r2⟩ | ⟨r1, r2⟩ | ⟨r1, r2⟩ <;> first | omega | grind
theorem o_add : (a.add c).cmp (b.add c) = a.cmp b := by
  rcases cmp_cases ha hb with ⟨p1, p2⟩ | ⟨p1, p2⟩ | ⟨p1, p2⟩ <;> rcases cmp_cases (add_valid ha hc) (add_valid hb hc) with ⟨q1, q2⟩ | ⟨q1, q2⟩ | ⟨q1, q2⟩ <;> rw [v_a ha hc, v_a hb hc] at q1 <;> first | omega | grind
theorem o_mul (h : 0 < c.sgn) : (a.mul c).cmp (b.mul c) = a.cmp b := by
  have hp : 0 < c.v := by rcases sgn_cases hc with ⟨p1, p2⟩ | ⟨p1, p2⟩ | ⟨p1, p2⟩ <;> first | omega | exact p1
  rcases cmp_cases ha hb with ⟨p1, p2⟩ | ⟨p1, p2⟩ | ⟨p1, p2⟩ <;> rcases cmp_cases (mul_valid ha hc) (mul_valid hb hc) with ⟨q1, q2⟩ | ⟨q1, q2⟩ | ⟨q1, q2⟩ <;> rw [v_m ha hc, v_m hb hc] at q1 <;> first | omega | (exfalso; have := Rat.mul_lt_mul_of_pos_right p1 hp; grind) | grind
end
section
variable {a b t : Fq} (ha : a.valid = true) (hb : b.valid = true) (ht : t.valid = true)
include ha
include hb
theorem o_anti : b.cmp a = -(a.cmp b) := by
  rcases cmp_cases ha hb with ⟨p1, p2⟩ | ⟨p1, p2⟩ | ⟨p1, p2⟩ <;> rcases cmp_cases hb ha with ⟨q1, q2⟩ | ⟨q1, q2⟩ | ⟨q1, q2⟩ <;> first | omega | grind
theorem o_zero : a.cmp b = 0 ↔ a = b := by
  constructor
  · intro h; rcases cmp_cases ha hb with ⟨p1, p2⟩ | ⟨p1, p2⟩ | ⟨p1, p2⟩ <;> first | omega | exact v_inj ha hb p1
  · rintro rfl; rcases cmp_cases ha hb with ⟨p1, p2⟩ | ⟨p1, p2⟩ | ⟨p1, p2⟩ <;> first | exact p2 | grind
include ht
end
end Go.Proofs.Ytldnimohnbjfaaa
namespace Go.Proofs.Ytldnimohnbjfaaa
set_option linter.unusedSimpArgs false
set_option linter.unusedVariables false
set_option maxRecDepth 100000
open Go.RowKit
theorem same_of {x y : Fq} (h : x = y) : x.same y = true := Fq.same_iff.2 h
theorem ok_int {v : Int} (lv : -9223372036854775808 ≤ v) (rv : v < 9223372036854775808) : (Fq.ofInt v).ok 2 := ⟨nl_abs lv rv, show nl 1 ≤ 2 by decide, Nat.one_ne_zero⟩
theorem run_neJ (t : TypeId) (n : Int) (w : World) : (binOp BinOp.neq t (.int .i64 n) (.int .i64 n)).run Try.prog w = .ok (.bool false) w := by
  have h : (binOp BinOp.neq t (.int .i64 n) (.int .i64 n)).run Try.prog w = .ok (.bool (n != n)) w := rfl
  rw [h]; simp
theorem arm_negI {Q : Exit → Act → World → Prop} {o : Oper} {a : Act} {w : World} {x : Operand} {n m : Int} (ho : o.op = .unOp .neg 3 x) (hx : Is a w x (.val (.int .i64 n))) (hm : IntKind.i64.wrap (-n) = m) : Arm Try.prog Q o a w (.val (.int .i64 m)) := by
  subst hm
  have hx' : a.eval x = .int .i64 n := hx
  refine arm_run (.int .i64 (IntKind.i64.wrap (-n))) ?_ rfl
  unfold execOp
  rw [ho]
  simp only [hx']
  go_simp
theorem q_fitQ (va : Value) (x : Fq) (w : World) (ha : IsQ w va x) (h : x.ok 12) (hv : x.valid = true) : Calls Try.prog 18 #[va] w fun e w' => RetV w (.bool true) e w' :=
  q_fitT va x.s (nl x.p) x.p (nl x.q) x.q w ha ⟨h.p, h.q, rfl, rfl, hv⟩
theorem FitP.split {w : World} {v : Value} {s : Bool} {L p N q : Nat} (h : FitP s L p N q) (ha : IsFR w v s L p N q) : ∃ x : Fq, IsQ w v x ∧ x.ok 12 ∧ x.valid = true :=
  ⟨⟨s, p, q⟩, ha.isQ h.2.2.1 h.2.2.2.1, h.ok, h.2.2.2.2⟩
theorem sgn_range (x : Fq) : x.sgn = -1 ∨ x.sgn = 0 ∨ x.sgn = 1 := by
  unfold Fq.sgn; split
  · exact .inr (.inl rfl)
  · split
    · exact .inl rfl
    · exact .inr (.inr rfl)
end Go.Proofs.Ytldnimohnbjfaaa
namespace Go.Proofs.Ytldnimohnbjfaaa
set_option linter.unusedSimpArgs false
set_option linter.unusedVariables false
set_option maxRecDepth 100000
open Go.RowKit
open Go.ChangeShapes Go.WideShapes Go.ChangeAt Go.RowKit
theorem digits_exist (f : Nat → Nat) (hf : ∀ j, f j < 4294967296) : ∀ L, ∃ N, N < 4294967296 ^ L ∧ ∀ j, j < L → D N j = f j
  | 0 => ⟨0, by simp, fun j h => by omega⟩
  | L + 1 => by
    obtain ⟨N, h1, h2⟩ := digits_exist f hf L
    refine ⟨upd N L (f L), upd_lt (Nat.lt_of_lt_of_le h1 (Nat.pow_le_pow_right (by decide) (Nat.le_succ L))) (Nat.lt_succ_self L) (hf L), fun j hj => ?_⟩
    by_cases e : j = L
    · subst e; exact D_upd_same N j (f j) (hf j)
    · rw [D_upd_other N L (f L) j (hf L) e]; exact h2 j (by omega)
end Go.Proofs.Ytldnimohnbjfaaa
namespace Go.Proofs.Ytldnimohnbjfaaa
set_option linter.unusedSimpArgs false
set_option linter.unusedVariables false
set_option maxRecDepth 100000
open Go.RowKit
open Go.ChangeShapes Go.WideShapes Go.ChangeAt Go.RowKit
theorem open_natc {H : Type} {enc : TypeId × Value → H} {W : World} {fuel : Nat} {u : Value} {x : DataW H × List MemPlace} (hf : DataW.trod enc Try.prog W 0 (fun _ => true) true fuel 24 [u] = some x) :
    ∃ a L cap m, u = .slice a L cap ∧ IsR W (.agg #[.slice a L cap]) L m ∧ L ≤ 9223372036854775807 := by
  obtain ⟨y0, n, hy, hl0, h1⟩ := trod_struct1 Try.underlying24 hf
  have hc2 : Try.prog.cellsOf 22 = 1 := by kernel_rfl
  simp [hc2] at h1
  rcases open_ints Try.underlying22 Try.underlying69 (by kernel_rfl) h1 with ⟨hcs, _⟩ | ⟨x, l, c, zs, hcs, _, hl, hm, hz, _, hcell, hwz⟩
  · simp at hcs
    subst hcs
    exact ⟨none, 0, 0, 0, rfl, ⟨none, 0, rfl, Nat.le_refl _, by simp, fun h => by omega⟩, by decide⟩
  · simp at hcs
    subst hcs
    obtain ⟨N, hN, hD⟩ := digits_exist (fun j => (zs.getD j 0).toNat) (fun j => by
      have := range_u32 hwz j
      have e : zs.getD j 0 = zs[j]?.getD 0 := by simp
      rw [e]; omega) l
    refine ⟨some x, l, c, N, rfl, ⟨some x, c, rfl, hl, hN, fun h0 => ?_⟩, by simp only [maxLen] at hm; omega⟩
    obtain ⟨b, off, spot⟩ := x
    have hc0 := hcell 0 (by rw [hz]; simp; omega)
    have hspot : spot = none := by simpa [Addr.add] using World.cell?_spot hc0
    subst hspot
    refine ⟨b, off, rfl, fun j hj => ?_⟩
    have h2 := hcell j (by rw [hz]; simp; omega)
    have hadd : (⟨b, off, none⟩ : Addr).add j = ⟨b, off + j, none⟩ := by unfold Addr.add; split <;> simp_all
    rw [hadd] at h2
    rw [h2, hD j hj]
    have := range_u32 hwz j
    have e : zs.getD j 0 = zs[j]?.getD 0 := by simp
    rw [e, Int.toNat_of_nonneg this.1]
theorem three {α : Type} {cs : Array α} (h : cs.size = 3) : ∃ a b c, cs = #[a, b, c] :=
  ⟨cs[0], cs[1], cs[2], by
    apply Array.ext
    · simp [h]
    · intro i h1 h2
      have : i = 0 ∨ i = 1 ∨ i = 2 := by omega
      rcases this with rfl | rfl | rfl <;> rfl⟩
theorem open_frac {H : Type} {enc : TypeId × Value → H} {W : World} {base : Nat} {v : Value} {d : DataW H} {p : List MemPlace} (hval : Value.okWide Try.prog W .any base 26 v) (h : DataW.Trod enc Try.prog W 0 (fun _ => true) true 26 v d p) :
    ∃ s L m N k, IsFR W v s L m N k ∧ L ≤ 9223372036854775807 ∧ N ≤ 9223372036854775807 := by
  obtain ⟨cs, rfl, hcs⟩ := okWide_struct Try.underlying26 hval
  obtain ⟨fuel, hf⟩ := h
  have hc : Try.prog.cellsOf 26 = 3 := by kernel_rfl
  have hcn : Try.prog.cellsOf 24 = 1 := by kernel_rfl
  have hcb : Try.prog.cellsOf 4 = 1 := by kernel_rfl
  rw [hc] at hcs
  obtain ⟨u0, u1, u2, rfl⟩ := three hcs
  obtain ⟨y0, y1, y2, n, hy, hl0, h0, h1, h2⟩ := Go.Deep.trod_struct3 Try.underlying26 hf
  simp [Value.cells, hcn, hcb] at h0 h1 h2
  obtain ⟨s, h3, _⟩ := DataW.trod_bool Try.underlying4 h0
  obtain rfl : u0 = .bool s := by simpa using h3
  obtain ⟨a, L, c, m, rfl, i1, l1⟩ := open_natc h1
  obtain ⟨a', N, c', k, rfl, i2, l2⟩ := open_natc h2
  exact ⟨s, L, m, N, k, ⟨a, c, a', c', rfl, i1, i2⟩, l1, l2⟩
end Go.Proofs.Ytldnimohnbjfaaa
