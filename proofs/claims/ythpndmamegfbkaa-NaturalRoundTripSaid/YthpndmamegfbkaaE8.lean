/- The state of the reference's DivMod. -/
import Derived.Test.YthpndmamegfbkaaE7
namespace Go.Proofs.Ythpndmamegfbkaa
set_option linter.unusedSimpArgs false
set_option linter.unusedVariables false
open Go.RowKit
/-- Two result variables, quotient and remainder in variables of their own, the arguments in theirs. -/
structure DM (w wr : World) (m n q r : Nat) : Prop where
  below : Below w.heap.size w wr
  va : VarI wr w.heap.size m
  vb : VarI wr (w.heap.size + 1) n
  r1 : VarB wr (w.heap.size + 2) none 0 0
  r2 : VarB wr (w.heap.size + 3) none 0 0
  vq : VarN w.heap.size wr (w.heap.size + 4) q
  vr : VarN w.heap.size wr (w.heap.size + 5) r
theorem DM.mono {w wr w' : World} {m n q r : Nat} (h : DM w wr m n q r) (hb : Below wr.heap.size wr w') : DM w w' m n q r :=
  ⟨h.below.trans (hb.mono h.below.size), h.va.mono hb, h.vb.mono hb, h.r1.mono hb h.r1.lt, h.r2.mono hb h.r2.lt, h.vq.mono (B := 0) hb, h.vr.mono (B := 0) hb⟩
theorem VarI.setOther {w : World} {g N g' L' c' : Nat} {a' : Option Addr} {u : Value} (h : VarI w g N) (h' : VarB w g' a' L' c') (hne : g' ≠ g) : VarI (w.setCell ⟨g', 0, none⟩ u) g N := by
  obtain ⟨a, c, h1, h2⟩ := h
  exact ⟨a, c, h1.setOther _ _ hne, h2.setVar h'⟩
theorem VarN.setOther {w : World} {base g N g' L' c' : Nat} {a' : Option Addr} {u : Value} (h : VarN base w g N) (h' : VarB w g' a' L' c') (hne : g' ≠ g) : VarN base (w.setCell ⟨g', 0, none⟩ u) g N := by
  obtain ⟨a, c, h1, h2⟩ := h
  exact ⟨a, c, h1.setOther _ _ hne, h2.setVar h'⟩
theorem VarN.setN {w : World} {base g M N c : Nat} {x : Option Addr} (h : VarN base w g M) (hn : NewN base w (.agg #[.slice x (nl N) c]) N) : VarN base (w.setCell ⟨g, 0, none⟩ (.slice x (nl N) c)) g N := by
  obtain ⟨a, c', h1, h2⟩ := h
  exact ⟨x, c, h1.set, hn.setVar h1⟩
theorem DM.setr {w wr : World} {m n q r N c : Nat} {x : Option Addr} (h : DM w wr m n q r) (hn : NewN w.heap.size wr (.agg #[.slice x (nl N) c]) N) : DM w (wr.setCell ⟨w.heap.size + 5, 0, none⟩ (.slice x (nl N) c)) m n q N := by
  obtain ⟨a, c', h1, h2⟩ := h.vr
  exact ⟨h.below.setCell (p := ⟨w.heap.size + 5, 0, none⟩) (Nat.le_add_right _ _) _, h.va.setOther h1 (by omega), h.vb.setOther h1 (by omega), h.r1.setOther _ _ (by simp), h.r2.setOther _ _ (by simp), h.vq.setOther h1 (by omega), h.vr.setN hn⟩
theorem DM.setq {w wr : World} {m n q r N c : Nat} {x : Option Addr} (h : DM w wr m n q r) (hn : NewN w.heap.size wr (.agg #[.slice x (nl N) c]) N) : DM w (wr.setCell ⟨w.heap.size + 4, 0, none⟩ (.slice x (nl N) c)) m n N r := by
  obtain ⟨a, c', h1, h2⟩ := h.vq
  exact ⟨h.below.setCell (p := ⟨w.heap.size + 4, 0, none⟩) (Nat.le_add_right _ _) _, h.va.setOther h1 (by omega), h.vb.setOther h1 (by omega), h.r1.setOther _ _ (by simp), h.r2.setOther _ _ (by simp), h.vq.setN hn, h.vr.setOther h1 (by omega)⟩
theorem dm_uniq {Y n q r : Nat} (h : Y = n * q + r) (hr : r < n) : Y / n = q ∧ Y % n = r :=
  (Nat.div_mod_unique (by omega)).2 ⟨by omega, hr⟩
theorem two_pow_half (m k : Nat) : m / 2 ^ k = 2 * (m / 2 ^ (k + 1)) + m / 2 ^ k % 2 := by
  rw [Nat.pow_succ, ← Nat.div_div_eq_div_mul]; omega
theorem lt_len2 (m : Nat) : m < 2 ^ len2 m := by
  unfold len2
  split
  · omega
  · exact Nat.lt_log2_self
/-- One round of the long division in binary digits. -/
theorem dm_round {m n k : Nat} (hn : 0 < n) : (n ≤ m / 2 ^ (k + 1) % n + m / 2 ^ (k + 1) % n + m / 2 ^ k % 2 → m / 2 ^ k / n = m / 2 ^ (k + 1) / n + m / 2 ^ (k + 1) / n + 1 ∧ m / 2 ^ k % n = m / 2 ^ (k + 1) % n + m / 2 ^ (k + 1) % n + m / 2 ^ k % 2 - n) ∧
    (m / 2 ^ (k + 1) % n + m / 2 ^ (k + 1) % n + m / 2 ^ k % 2 < n → m / 2 ^ k / n = m / 2 ^ (k + 1) / n + m / 2 ^ (k + 1) / n ∧ m / 2 ^ k % n = m / 2 ^ (k + 1) % n + m / 2 ^ (k + 1) % n + m / 2 ^ k % 2) := by
  have h1 := two_pow_half m k
  have h2 := Nat.div_add_mod (m / 2 ^ (k + 1)) n
  have h3 := Nat.mod_lt (m / 2 ^ (k + 1)) hn
  generalize m / 2 ^ (k + 1) = X at *
  generalize m / 2 ^ k = Y at *
  generalize hb : Y % 2 = b at *
  have hb2 : b < 2 := by omega
  generalize X / n = q at *
  generalize X % n = r at *
  subst h2
  have e1 : n * (q + q) = n * q + n * q := Nat.mul_add n q q
  have e2 : n * (q + q + 1) = n * q + n * q + n := by rw [Nat.mul_add, e1, Nat.mul_one]
  refine ⟨fun h => dm_uniq ?_ (by omega), fun h => dm_uniq ?_ h⟩
  · rw [h1, e2]; omega
  · rw [h1, e1]; omega
/-- The two results are laid into their variables, in whatever order. -/
theorem DM.fin {w w0 : World} {m n q r cq cr : Nat} {aq ar : Option Addr} (h : DM w w0 m n q r) (hq : VarB w0 (w.heap.size + 4) aq (nl q) cq) (nq : NewN w.heap.size w0 (.agg #[.slice aq (nl q) cq]) q)
    (hr : VarB w0 (w.heap.size + 5) ar (nl r) cr) (nr : NewN w.heap.size w0 (.agg #[.slice ar (nl r) cr]) r) (w1 : World)
    (hw : w1 = (w0.setCell ⟨w.heap.size + 2, 0, none⟩ (.slice aq (nl q) cq)).setCell ⟨w.heap.size + 3, 0, none⟩ (.slice ar (nl r) cr) ∨ w1 = (w0.setCell ⟨w.heap.size + 3, 0, none⟩ (.slice ar (nl r) cr)).setCell ⟨w.heap.size + 2, 0, none⟩ (.slice aq (nl q) cq)) :
    VarB w1 (w.heap.size + 2) aq (nl q) cq ∧ VarB w1 (w.heap.size + 3) ar (nl r) cr ∧ NewN w.heap.size w1 (.agg #[.slice aq (nl q) cq]) q ∧ NewN w.heap.size w1 (.agg #[.slice ar (nl r) cr]) r ∧ Below w.heap.size w w1 := by
  rcases hw with rfl | rfl
  · have k2 := h.r2.setOther ⟨w.heap.size + 2, 0, none⟩ (.slice aq (nl q) cq) (by simp)
    exact ⟨h.r1.set.setOther _ _ (by simp), k2.set, (nq.setVar h.r1).setVar k2, (nr.setVar h.r1).setVar k2, (h.below.setCell (p := ⟨w.heap.size + 2, 0, none⟩) (Nat.le_add_right _ _) _).setCell (p := ⟨w.heap.size + 3, 0, none⟩) (Nat.le_add_right _ _) _⟩
  · have k1 := h.r1.setOther ⟨w.heap.size + 3, 0, none⟩ (.slice ar (nl r) cr) (by simp)
    exact ⟨k1.set, h.r2.set.setOther _ _ (by simp), (nq.setVar h.r2).setVar k1, (nr.setVar h.r2).setVar k1, (h.below.setCell (p := ⟨w.heap.size + 3, 0, none⟩) (Nat.le_add_right _ _) _).setCell (p := ⟨w.heap.size + 2, 0, none⟩) (Nat.le_add_right _ _) _⟩
section
variable {Q : Exit → Act → World → Prop} {o : Oper} {a : Act} {w : World} {x y : Operand} {m n : Nat} {tt : Array TypeId}
theorem arm_bit {i : Nat} (ho : o.op = .call { callee := .value (.func 54), args := #[x, y], argTypes := tt }) (hx : Is a w x (.nat m)) (hy : Is a w y (.val (.int .i64 (i : Int)))) (hm : nl m ≤ 1000000000000) (hi : i ≤ 60000000000000) {b : Nat} (hb : m / 2 ^ i % 2 = b) :
    Arm Try.prog Q o a w (.val (.int .u64 (b : Int))) := by
  subst hb
  refine arm_call ho (enters Try.func54 rfl rfl) (R := RetV w (.int .u64 ((m / 2 ^ i % 2 : Nat) : Int))) ?_ (fun _ _ h => ofV h)
  have hy' : a.eval y = .int .i64 (i : Int) := hy
  simpa [hy'] using c_bit _ m i w hx hm hi
end
end Go.Proofs.Ythpndmamegfbkaa
