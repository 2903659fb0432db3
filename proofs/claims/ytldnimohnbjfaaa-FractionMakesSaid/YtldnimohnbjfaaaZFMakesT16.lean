/- What an argument of type roboticslaw02.Parts is. -/
import Derived.Test.YtldnimohnbjfaaaZFMakesT15
namespace Go.Proofs.Ytldnimohnbjfaaa
set_option linter.unusedSimpArgs false
set_option linter.unusedVariables false
set_option maxRecDepth 100000
open Go.RowKit
open Go.ChangeShapes Go.WideShapes Go.ChangeAt Go.RowKit
theorem five {α : Type} {cs : Array α} (h : cs.size = 5) : ∃ a b c d e, cs = #[a, b, c, d, e] :=
  ⟨cs[0], cs[1], cs[2], cs[3], cs[4], by
    apply Array.ext
    · simp [h]
    · intro i h1 h2
      have : i = 0 ∨ i = 1 ∨ i = 2 ∨ i = 3 ∨ i = 4 := by omega
      rcases this with rfl | rfl | rfl | rfl | rfl <;> rfl⟩
theorem range_i64 {n : Int} (h : (Lit.int .i64 n).wf = true) : -9223372036854775808 ≤ n ∧ n < 9223372036854775808 := by
  simp only [Lit.wf, Bool.and_eq_true, decide_eq_true_eq] at h
  have h1 : IntKind.i64.min = -9223372036854775808 := by decide +kernel
  have h2 : IntKind.i64.max = 9223372036854775807 := by decide +kernel
  omega
theorem open_parts {H : Type} {enc : TypeId × Value → H} {W : World} {base : Nat} {v : Value} {d : DataW H} {p : List MemPlace} (hval : Value.okWide Try.prog W .any base 36 v) (h : DataW.Trod enc Try.prog W 0 (fun _ => true) true 36 v d p) :
    ∃ A B s L m N k, IsPt W v A B s L m N k ∧ -9223372036854775808 ≤ A ∧ A < 9223372036854775808 ∧ -9223372036854775808 ≤ B ∧ B < 9223372036854775808 := by
  obtain ⟨cs, rfl, hcs⟩ := okWide_struct Try.underlying36 hval
  obtain ⟨fuel, hf⟩ := h
  have hc : Try.prog.cellsOf 36 = 5 := by kernel_rfl
  have hcn : Try.prog.cellsOf 24 = 1 := by kernel_rfl
  have hcb : Try.prog.cellsOf 4 = 1 := by kernel_rfl
  have hci : Try.prog.cellsOf 2 = 1 := by kernel_rfl
  rw [hc] at hcs
  obtain ⟨u0, u1, u2, u3, u4, rfl⟩ := five hcs
  obtain ⟨xs, n, _, _, _, hlen, hg⟩ := DataW.trod_struct Try.underlying36 hf
  match xs, hlen with
  | [y0, y1, y2, y3, y4], _ =>
    have h0 := hg 0 _ rfl
    have h1 := hg 1 _ rfl
    have h2 := hg 2 _ rfl
    have h3 := hg 3 _ rfl
    have h4 := hg 4 _ rfl
    simp [Value.cells, hcn, hcb, hci] at h0 h1 h2 h3 h4
    obtain ⟨A, g0, _, w0⟩ := DataW.trod_int Try.underlying2 h0
    obtain ⟨B, g1, _, w1⟩ := DataW.trod_int Try.underlying2 h1
    obtain ⟨s, g2, _⟩ := DataW.trod_bool Try.underlying4 h2
    obtain rfl : u0 = .int .i64 A := by simpa using g0
    obtain rfl : u1 = .int .i64 B := by simpa using g1
    obtain rfl : u2 = .bool s := by simpa using g2
    obtain ⟨a, L, c, m, rfl, i1, l1⟩ := open_natc h3
    obtain ⟨a', N, c', k, rfl, i2, l2⟩ := open_natc h4
    obtain ⟨a1, a2⟩ := range_i64 w0
    obtain ⟨b1, b2⟩ := range_i64 w1
    exact ⟨A, B, s, L, m, N, k, ⟨a, c, a', c', rfl, i1, i2⟩, a1, a2, b1, b2⟩
end Go.Proofs.Ytldnimohnbjfaaa
