/- Rows of digits that grow by append. -/
import Derived.Test.YthpndmamegfbkaaF2
namespace Go.Proofs.Ythpndmamegfbkaa
set_option linter.unusedSimpArgs false
set_option linter.unusedVariables false
open Go.RowKit
def digL (N L : Nat) : List Value := (List.range L).map fun j => Value.int .u32 ((D N j : Nat) : Int)
/-- v is a slice of L digits of value N, in memory of the call's own from block 'base' on, with room behind it perhaps. -/
def GR (w : World) (base : Nat) (v : Value) (L N : Nat) : Prop := N < 4294967296 ^ L ∧ w.ownsRow base 42 1 v L (digL N L)
theorem GR.nil (w : World) (base : Nat) : GR w base (.slice none 0 0) 0 0 := ⟨by decide, World.ownsRow_nil _ _ _ _⟩
theorem GR.open {w : World} {base L N : Nat} {v : Value} (h : GR w base v L N) :
    ∃ a c, v = .slice a L c ∧ L ≤ c ∧ Rw w a L N ∧ (0 < L → ∃ g, a = some ⟨g, 0, none⟩ ∧ base ≤ g ∧ g < w.heap.size ∧ ∀ p, w.frozen? ⟨g, p, none⟩ = false) := by
  rcases h.2.2 with ⟨rfl, h0⟩ | ⟨g, c, cur, rfl, hb, hg, hnc, hcm, hcs, htake⟩
  · exact ⟨none, 0, by rw [h0], by omega, ⟨h.1, fun hL => by omega⟩, fun hL => by omega⟩
  · refine ⟨some ⟨g, 0, none⟩, c, rfl, hnc, ⟨h.1, fun hL => ⟨g, 0, rfl, fun j hj => ?_⟩⟩, fun hL => ⟨g, rfl, hb, (Array.getElem?_eq_some_iff.1 hg).1, fun p => frozen_of_row w g p cur _ hg⟩⟩
    rw [Nat.zero_add, cell_of_row w g j cur _ (0, 0) hg]
    have h1 : (cur.toList.take (L * 1))[j]? = some (.int .u32 ((D N j : Nat) : Int)) := by rw [htake]; simp [digL, hj]
    rw [List.getElem?_take] at h1
    split at h1
    · simpa using h1
    · cases h1
theorem digL_set {N L p e : Nat} (hp : p < L) (he : e < 4294967296) : (digL N L).set p (.int .u32 (e : Int)) = digL (upd N p e) L := by
  apply List.ext_getElem?
  intro i
  rw [List.getElem?_set]
  unfold digL
  by_cases hi : p = i
  · subst hi; simp [hp, D_upd_same N p e he]
  · rw [if_neg hi]
    simp only [List.getElem?_map, List.getElem?_range]
    cases hr : (List.range L)[i]? with
    | none => simp
    | some x =>
      simp only [Option.map_some]
      have hx : x = i := by
        have := List.getElem?_eq_some_iff.1 hr
        obtain ⟨h1, h2⟩ := this
        simpa using h2.symm
      subst hx
      rw [D_upd_other N p e x he (by omega)]
theorem GR.store {w : World} {base g L c N p e : Nat} (h : GR w base (.slice (some ⟨g, 0, none⟩) L c) L N) (hp : p < L) (he : e < 4294967296) :
    GR (w.setCell ⟨g, p, none⟩ (.int .u32 (e : Int))) base (.slice (some ⟨g, 0, none⟩) L c) L (upd N p e) := by
  refine ⟨upd_lt h.1 hp he, by unfold digL; simp, ?_⟩
  rcases h.2.2 with ⟨h1, h0⟩ | ⟨g', c', cur, hv, hb, hg, hnc, hcm, hcs, htake⟩
  · cases h1
  · cases hv
    refine .inr ⟨g, c, cur.setIfInBounds p (.int .u32 (e : Int)), rfl, hb, heap_setCell_same w g p cur _ _ hg, hnc, hcm, by simpa using hcs, ?_⟩
    rw [Array.toList_setIfInBounds, List.take_set, htake, digL_set hp he]
theorem digL_push (N L e : Nat) (hN : N < 4294967296 ^ L) (he : e < 4294967296) : digL N L ++ [.int .u32 (e : Int)] = digL (N + e * 4294967296 ^ L) (L + 1) := by
  unfold digL
  rw [List.range_succ, List.map_append]
  congr 1
  · apply List.map_congr_left
    intro j hj
    have hj' : j < L := by simpa using hj
    have : D (N + e * 4294967296 ^ L) j = D N j := by
      unfold D
      obtain ⟨d, rfl⟩ : ∃ d, L = j + 1 + d := ⟨L - (j + 1), by omega⟩
      rw [Nat.pow_add, Nat.pow_succ, show e * (4294967296 ^ j * 4294967296 * 4294967296 ^ d) = 4294967296 ^ j * (4294967296 * (e * 4294967296 ^ d)) by grind, Nat.add_mul_div_left _ _ (powB j), Nat.add_mul_mod_self_left]
    rw [this]
  · have : D (N + e * 4294967296 ^ L) L = e := by
      unfold D
      rw [Nat.mul_comm, Nat.add_mul_div_left _ _ (powB L), Nat.div_eq_of_lt hN, Nat.zero_add, Nat.mod_eq_of_lt he]
    simp [this]
theorem GR.of_own {w : World} {base L N e : Nat} {v : Value} (hN : N < 4294967296 ^ L) (he : e < 4294967296) (h : w.ownsRow base 42 1 v (L + 1) (digL N L ++ [.int .u32 (e : Int)])) : GR w base v (L + 1) (N + e * 4294967296 ^ L) := by
  refine ⟨?_, by rw [← digL_push N L e hN he]; exact h⟩
  rw [Nat.pow_succ]
  have h1 : (e + 1) * 4294967296 ^ L ≤ 4294967296 * 4294967296 ^ L := Nat.mul_le_mul_right _ he
  rw [Nat.add_mul, Nat.one_mul] at h1
  rw [Nat.mul_comm (4294967296 ^ L)]
  have := hN
  omega
theorem GR.keep {w w' : World} {base L N : Nat} {v : Value} (h : GR w base v L N) (hg : w.grownBy w' none) : GR w' base v L N := ⟨h.1, h.2.kept hg (by cases hv : v.ownBlock <;> simp)⟩
/-- 'w = append(w, x)': one digit more. -/
theorem wpList_append_digit {w0 : World} {ops : Array Oper} {rest : List Oper} {o : Oper} {a : Act} {Q : Exit → Act → World → Prop}
    (hg : o.guard = none) (s x : Operand) (hop : o.op = Op.call { callee := Callee.builtin Builtin.append, args := #[s, x], argTypes := #[22, 22] })
    (base : Nat) (v : Value) (L N e : Nat) (hs : a.eval s = v) (hgr : GR w0 base v L N) (hbase : base ≤ w0.heap.size) (hx : a.eval x = .slice (some ⟨w0.heap.size, 0, none⟩) 1 1) (he : e < 4294967296) (hL : L + 1 ≤ 30000000000000)
    (hK : ∀ v' w', GR w' base v' (L + 1) (N + e * 4294967296 ^ L) → Below base w0 w' → base ≤ w'.heap.size → wpList Try.prog ops Q rest (a.put o.dst v') w') :
    wpList Try.prog ops Q (o :: rest) a (w0.alloc (.cells #[.int .u32 (e : Int)] 42)) := by
  obtain ⟨i, hi, hz0, hz1, hz2⟩ := info_parts infoU32
  have hgr' := hgr.keep (World.grownBy_alloc w0 (.cells #[.int .u32 (e : Int)] 42) none)
  have hb1 : Below base w0 (w0.alloc (.cells #[.int .u32 (e : Int)] 42)) := (Below.refl _ _).alloc hbase _
  refine wpList_append_own _ hg s x 22 hop base 42 i (.int .u32 0) 1 4 Try.underlying22 hi hz0 hz1 hz2 rfl (by decide) v L (digL N L) hs hgr'.2
    ⟨w0.heap.size, 0, none⟩ 1 1 [.int .u32 (e : Int)] hx rfl ?_ ?_ (by simp only [maxLen]; omega) (by omega) (Nat.le_trans hbase hb1.size) ?_
  · intro j u hj
    match j, hj with
    | 0, hj => simp at hj; subst hj; simp [Addr.add]
    | (j + 1), hj => simp at hj
  · intro u hu; simp at hu; subst hu; rfl
  · intro v' w' ho hgb _
    exact hK v' w' (GR.of_own hgr.1 he ho) (hb1.grown hgb (Nat.le_trans hbase hb1.size) (fun k hk => (hgr'.2.lt k hk).1)) (Nat.le_trans hbase (Nat.le_trans hb1.size hgb.size))
end Go.Proofs.Ythpndmamegfbkaa
